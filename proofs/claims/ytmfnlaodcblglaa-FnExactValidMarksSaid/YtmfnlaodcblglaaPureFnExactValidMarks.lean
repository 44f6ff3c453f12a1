/- FnExactValidMarks: the program's ValidMarks answers as the reference's does, for all samples and marks. No condition. -/
import Derived.Test.YtmfnlaodcblglaaSayFnExactValidMarks
import Derived.Test.YtmfnlaodcblglaaFHpMarks
import Derived.Test.YtmfnlaodcblglaaFLibMarks
namespace Go.Proofs.Ytmfnlaodcblglaa.PureFnExactValidMarks
open Go.RowKit Go.Proofs.YtmfnlaodcblglaaW.PrintWords Go.Proofs.Ytmfnlaodcblglaa.G Go.Proofs.Ytmfnlaodcblglaa.SayFnExactValidMarks Go.Proofs.Ytmfnlaodcblglaa.Wk Go.Proofs.Ytmfnlaodcblglaa.Pl
set_option linter.unusedSimpArgs false
set_option linter.unusedVariables false

theorem spec_tells (s : Int) (m : List (List Int)) (hm : m.length ≤ 1048576) (hx : ∀ x ∈ m, (x.length : Int) ≤ 1048576) : Ev (fun k => spec_ValidMarks.f k s m) (marksB s m) := by
  unfold spec_ValidMarks.f
  exact Ev.bind (l07Ok_tells s m hm hx) (Ev.now _)
theorem FnExactValidMarks : SayFnExactValidMarks.Pure := by
  intro s m _ hl hx
  refine Ev.rounds (?_ : Ev (fun k => laws_FnExactValidMarks.f k s m) true)
  unfold laws_FnExactValidMarks.f
  rcases szMarks_tells m hl (fun x h => (hx x h).1) 1048576 (by omega) (by omega) with h | ⟨⟨h1, h2⟩, n, hn, h⟩
  · refine Ev.bind h ?_
    simp only [if_pos (show (-1 : Int) < 0 by omega)]
    exact Ev.now _
  · refine Ev.bind h ?_
    simp only [if_neg (show ¬ (n < 0) by omega)]
    repeat (first
      | exact Ev.now _
      | refine Ev.bind (by first | exact toMarks_tells m (by omega) h2 | exact spec_tells s m (by omega) h2 | exact eqMarks_tells m (by omega) h2) ?_
      | simp only [impl_ValidMarks.f, Option.bind_some, if_true, bne_self, if_neg Bool.false_ne_true])
end Go.Proofs.Ytmfnlaodcblglaa.PureFnExactValidMarks
