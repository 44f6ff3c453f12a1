/-
  DERIVED. GIVEN WITH THE SEED: THE CARDS: each row of YthkifkfnlmjafaaDoorRows.lean that lists a variable, with what it lists TIED to the program's text (the seventh form; the later family's looks); each row that meets fmt, with fmt's text TOLD by the authors' own Lean function (tested against real Go, not proved from fmt's source: count such statements apart). THE CARD IS WHAT COUNTS. Prove the row's statement (the work); the ties are given (YthkifkfnlmjafaaDoorTie.lean); close each card by the builder's one call (the guide's Derived/Test/ToyasCard.lean, 'card_holds'). Laid BY PROGRAM, IN A SANDBOX (cutbox-door.mjs). By AI agents, Wed Nov 11 2026. No macro, syntax, notation, axiom, sorry.
-/
import Derived.Test.YthkifkfnlmjafaaDoorRows
import GoSem.ClaimSeven
namespace Go.Proofs.YthkifkfnlmjafaaDoor
namespace Rows

/-- THE TIED CARD OF 'laws.FnExactWalkerText'. -/
def fnExactWalkerTextCard : Claim7 := { stood := { row := fnExactWalkerTextRow, standIns := [], harness := (true, "6965338b9a72fb8bfaf96b3d53f180f4103dd626b2cde5019c066a06b4a49d02"), looks := true }, kinds := [], alts := [], laidByText := true, laidKinds := [.data, .data, .data], laidTests := true, laidLooks := .later }
def FnExactWalkerTextCardSaid : Prop := Claim7.holds Tryd.pinned (.plain (OpenSpec.ofChange fnExactWalkerTextSpec)) fnExactWalkerTextCard

/-- THE TIED CARD OF 'laws.FnExactLedgerText'. -/
def fnExactLedgerTextCard : Claim7 := { stood := { row := fnExactLedgerTextRow, standIns := [], harness := (true, "6965338b9a72fb8bfaf96b3d53f180f4103dd626b2cde5019c066a06b4a49d02"), looks := true }, kinds := [], alts := [], laidByText := true, laidKinds := [.data, .data, .data], laidTests := true, laidLooks := .later }
def FnExactLedgerTextCardSaid : Prop := Claim7.holds Tryd.pinned (.plain (OpenSpec.ofChange fnExactLedgerTextSpec)) fnExactLedgerTextCard

/-- THE TIED CARD OF 'laws.FnExactMarksText'. -/
def fnExactMarksTextCard : Claim7 := { stood := { row := fnExactMarksTextRow, standIns := [], harness := (true, "6965338b9a72fb8bfaf96b3d53f180f4103dd626b2cde5019c066a06b4a49d02"), looks := true }, kinds := [], alts := [], laidByText := true, laidKinds := [.data, .data, .data], laidTests := true, laidLooks := .later }
def FnExactMarksTextCardSaid : Prop := Claim7.holds Tryd.pinned (.plain (OpenSpec.ofChange fnExactMarksTextSpec)) fnExactMarksTextCard

/-- THE TIED CARD OF 'laws.FnExactReadMarks'. -/
def fnExactReadMarksCard : Claim7 := { stood := { row := fnExactReadMarksRow, standIns := [], harness := (true, "6965338b9a72fb8bfaf96b3d53f180f4103dd626b2cde5019c066a06b4a49d02"), looks := true }, kinds := [], alts := [], laidByText := true, laidKinds := [.data, .data, .data, .data, .sentinel, .sentinel, .pinned], laidTests := true, laidLooks := .later }
def FnExactReadMarksCardSaid : Prop := Claim7.holds Tryd.pinned (.plain (OpenSpec.ofChange fnExactReadMarksSpec)) fnExactReadMarksCard

/-- THE TIED CARD OF 'laws.FnExactReadLedger'. -/
def fnExactReadLedgerCard : Claim7 := { stood := { row := fnExactReadLedgerRow, standIns := [], harness := (true, "6965338b9a72fb8bfaf96b3d53f180f4103dd626b2cde5019c066a06b4a49d02"), looks := true }, kinds := [], alts := [], laidByText := true, laidKinds := [.data, .data, .data, .data, .sentinel, .sentinel, .pinned], laidTests := true, laidLooks := .later }
def FnExactReadLedgerCardSaid : Prop := Claim7.holds Tryd.pinned (.plain (OpenSpec.ofChange fnExactReadLedgerSpec)) fnExactReadLedgerCard

/-- THE SECOND FORM's CARD OF 'laws.FnExactWalkerText'. -/
def fnExactWalkerTextUptoCard : Claim7 := { stood := { row := fnExactWalkerTextUptoRow, standIns := [], harness := (true, "6965338b9a72fb8bfaf96b3d53f180f4103dd626b2cde5019c066a06b4a49d02"), looks := true }, kinds := [], alts := [], laidByText := true, laidKinds := [.data, .data, .data], laidTests := true, laidLooks := .later }
def FnExactWalkerTextUptoCardSaid : Prop := Claim7.holds Tryd.pinned (.plain (OpenSpec.upto fnExactWalkerTextSpec)) fnExactWalkerTextUptoCard

/-- THE SECOND FORM's CARD OF 'laws.FnExactLedgerText'. -/
def fnExactLedgerTextUptoCard : Claim7 := { stood := { row := fnExactLedgerTextUptoRow, standIns := [], harness := (true, "6965338b9a72fb8bfaf96b3d53f180f4103dd626b2cde5019c066a06b4a49d02"), looks := true }, kinds := [], alts := [], laidByText := true, laidKinds := [.data, .data, .data], laidTests := true, laidLooks := .later }
def FnExactLedgerTextUptoCardSaid : Prop := Claim7.holds Tryd.pinned (.plain (OpenSpec.upto fnExactLedgerTextSpec)) fnExactLedgerTextUptoCard

/-- THE SECOND FORM's CARD OF 'laws.FnExactMarksText'. -/
def fnExactMarksTextUptoCard : Claim7 := { stood := { row := fnExactMarksTextUptoRow, standIns := [], harness := (true, "6965338b9a72fb8bfaf96b3d53f180f4103dd626b2cde5019c066a06b4a49d02"), looks := true }, kinds := [], alts := [], laidByText := true, laidKinds := [.data, .data, .data], laidTests := true, laidLooks := .later }
def FnExactMarksTextUptoCardSaid : Prop := Claim7.holds Tryd.pinned (.plain (OpenSpec.upto fnExactMarksTextSpec)) fnExactMarksTextUptoCard

/-- THE SECOND FORM's CARD OF 'laws.FnExactReadMarks'. -/
def fnExactReadMarksUptoCard : Claim7 := { stood := { row := fnExactReadMarksUptoRow, standIns := [], harness := (true, "6965338b9a72fb8bfaf96b3d53f180f4103dd626b2cde5019c066a06b4a49d02"), looks := true }, kinds := [], alts := [], laidByText := true, laidKinds := [.data, .data, .data, .data, .sentinel, .sentinel, .pinned], laidTests := true, laidLooks := .later }
def FnExactReadMarksUptoCardSaid : Prop := Claim7.holds Tryd.pinned (.plain (OpenSpec.upto fnExactReadMarksSpec)) fnExactReadMarksUptoCard

/-- THE SECOND FORM's CARD OF 'laws.FnExactReadLedger'. -/
def fnExactReadLedgerUptoCard : Claim7 := { stood := { row := fnExactReadLedgerUptoRow, standIns := [], harness := (true, "6965338b9a72fb8bfaf96b3d53f180f4103dd626b2cde5019c066a06b4a49d02"), looks := true }, kinds := [], alts := [], laidByText := true, laidKinds := [.data, .data, .data, .data, .sentinel, .sentinel, .pinned], laidTests := true, laidLooks := .later }
def FnExactReadLedgerUptoCardSaid : Prop := Claim7.holds Tryd.pinned (.plain (OpenSpec.upto fnExactReadLedgerSpec)) fnExactReadLedgerUptoCard
end Rows
end Go.Proofs.YthkifkfnlmjafaaDoor
