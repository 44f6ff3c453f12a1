/- FnExactValidLedger: the program's ValidLedger answers as the reference's does, for all ledgers that the law lets in (at most 1048576 entries). No condition. -/
import Derived.Test.YtodlaafabnmbhaaSayFnExactValidLedger
import Derived.Test.YtodlaafabnmbhaaFHpEntry
import Derived.Test.YtodlaafabnmbhaaFLibEntry
namespace Go.Proofs.Ytodlaafabnmbhaa.PureFnExactValidLedger
open Go.RowKit Go.Proofs.YtodlaafabnmbhaaW.PrintWords Go.Proofs.Ytodlaafabnmbhaa.G Go.Proofs.Ytodlaafabnmbhaa.SayFnExactValidLedger Go.Proofs.Ytodlaafabnmbhaa.Wk Go.Proofs.Ytodlaafabnmbhaa.Pl
set_option linter.unusedSimpArgs false
set_option linter.unusedVariables false
theorem FnExactValidLedger : SayFnExactValidLedger.Pure := by
  intro p l _ hl _
  refine Ev.rounds (?_ : Ev (fun k => laws_FnExactValidLedger.f k p l) true)
  unfold laws_FnExactValidLedger.f
  simp only [szEntryS_tells l hl 1048576 (by omega) (by omega), Option.bind_some]
  by_cases hbig : (1048576 : Int) < l.length
  · simp only [if_pos hbig]
    exact Ev.now _
  · simp only [if_neg hbig, if_neg (show ¬ ((1048576 : Int) - l.length < 0) by omega)]
    refine Ev.bind (ev_of (toEntryS_tells l hl)) ?_
    simp only [spec_ValidLedger.f, spec_l06Ledger.f, Option.bind_some]
    refine Ev.bind (ev_of (toEntryS_tells l hl)) ?_
    refine Ev.bind (ev_of (validLedger_tells p (l.map cEntry) (by simp; omega))) ?_
    simp only [bne_self, if_neg Bool.false_ne_true]
    refine Ev.bind (ev_of (toEntryS_tells l hl)) ?_
    refine Ev.bind (ev_of (eqEntryS_tells (l.map cEntry) (by simp; omega))) ?_
    exact Ev.now _
end Go.Proofs.Ytodlaafabnmbhaa.PureFnExactValidLedger
