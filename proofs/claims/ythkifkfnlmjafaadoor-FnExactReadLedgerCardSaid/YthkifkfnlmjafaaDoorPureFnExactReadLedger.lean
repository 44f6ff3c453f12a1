/- FnExactReadLedger: the program's ReadLedger answers as the reference's does, for every text of at most 1048576 bytes. Its row lists what the library's tables and errors hold; its card ties that to the program's text. -/
import Derived.Test.YthkifkfnlmjafaaDoorSayFnExactReadLedger
import Derived.Test.YthkifkfnlmjafaaDoorFHpEntry
import Derived.Test.YthkifkfnlmjafaaDoorFLibReadE
namespace Go.Proofs.YthkifkfnlmjafaaDoor.PureFnExactReadLedger
open Go.RowKit Go.Proofs.YthkifkfnlmjafaaDoorW.PrintWords Go.Proofs.YthkifkfnlmjafaaDoor.G Go.Proofs.YthkifkfnlmjafaaDoor.SayFnExactReadLedger Go.Proofs.YthkifkfnlmjafaaDoor.Wk Go.Proofs.YthkifkfnlmjafaaDoor.Pl Txr
set_option linter.unusedSimpArgs false
set_option linter.unusedVariables false
theorem FnExactReadLedger : SayFnExactReadLedger.Pure := by
  intro s hs
  refine Ev.rounds (?_ : Ev (fun k => laws_FnExactReadLedger.f k s) true)
  unfold laws_FnExactReadLedger.f
  by_cases hbig : (s.size : Int) > 1048576
  · exact ifp hbig (Ev.now _)
  refine ifn hbig ?_
  obtain ⟨⟨g, y⟩, hg, h1, h2⟩ := ledger_same s.data.toList (by have := Lib.size_eq s; omega)
  rw [Txt.B_self] at h1 h2
  simp only at hg
  repeat (first
    | exact Ev.now _
    | refine Ev.bind (by first | exact h1 | exact h2 | exact ev_of (eqEntryS_tells g (by omega)) | exact ev_of (markEntryS_tells g (by omega) 1 (by omega) (by omega)) | exact ev_of (heldEntryS_tells g.length (by omega) 1 (by omega) (by omega))) ?_
    | simp only [Option.bind_some, if_true, bne_self, if_neg Bool.false_ne_true, if_neg (show ¬ (cnt 1 5 g.length < 0) by unfold cnt; omega)]
    | refine Ev.step (fun k => laws_FnExactReadLedger.j0.eq_2 _ _ _ _ _ k) ?_
    | refine Ev.step (fun k => laws_FnExactReadLedger.j1.eq_2 _ _ _ k) ?_)
end Go.Proofs.YthkifkfnlmjafaaDoor.PureFnExactReadLedger
