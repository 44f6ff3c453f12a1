/- FnExactMarksText: the program's MarksText answers as the reference's does, for all samples and marks. Its row lists what three of the library's tables hold; its card ties that to the program's text. -/
import Derived.Test.YthkifkfnlmjafaaDoorSayFnExactMarksText
import Derived.Test.YthkifkfnlmjafaaDoorFHpMarks
import Derived.Test.YthkifkfnlmjafaaDoorFLibMarks
import Derived.Test.YthkifkfnlmjafaaDoorFLibTextM
namespace Go.Proofs.YthkifkfnlmjafaaDoor.PureFnExactMarksText
open Go.RowKit Go.Proofs.YthkifkfnlmjafaaDoorW.PrintWords Go.Proofs.YthkifkfnlmjafaaDoor.G Go.Proofs.YthkifkfnlmjafaaDoor.SayFnExactMarksText Go.Proofs.YthkifkfnlmjafaaDoor.Wk Go.Proofs.YthkifkfnlmjafaaDoor.Pl Txt
set_option linter.unusedSimpArgs false
set_option linter.unusedVariables false
def out (s : Int) (m : List (List Int)) : List UInt8 := if marksB s m = true then textM m else []
theorem impl_t (s : Int) (m : List (List Int)) : impl_MarksText.f s m = some (B (out s m)) := by
  unfold impl_MarksText.f out
  split <;> rfl
theorem spec_t (s : Int) (m : List (List Int)) (hm : m.length ≤ 1048576) (hx : ∀ x ∈ m, (x.length : Int) ≤ 1048576) : Ev (fun k => spec_MarksText.f k s m) (B (out s m)) := by
  unfold spec_MarksText.f out
  refine Ev.bind (l07Ok_tells s m hm hx) ?_
  cases h : marksB s m
  · exact Ev.now _
  · obtain ⟨h1, h2⟩ := marks_rows h
    exact Ev.bind (textM_t m h1 h2) (Ev.now _)
theorem FnExactMarksText : SayFnExactMarksText.Pure := by
  intro s m _ hl hx
  refine Ev.rounds (?_ : Ev (fun k => laws_FnExactMarksText.f k s m) true)
  unfold laws_FnExactMarksText.f
  rcases szMarks_tells m hl (fun x h => (hx x h).1) 1048576 (by omega) (by omega) with h | ⟨⟨h1, h2⟩, n, hn, h⟩
  · refine Ev.bind h ?_
    simp only [if_pos (show (-1 : Int) < 0 by omega)]
    exact Ev.now _
  · refine Ev.bind h ?_
    simp only [if_neg (show ¬ (n < 0) by omega)]
    repeat (first
      | exact Ev.now _
      | refine Ev.bind (by first | exact toMarks_tells m (by omega) h2 | exact spec_t s m (by omega) h2 | exact eqMarks_tells m (by omega) h2) ?_
      | simp only [impl_t, Option.bind_some, if_true, bne_self, if_neg Bool.false_ne_true])
end Go.Proofs.YthkifkfnlmjafaaDoor.PureFnExactMarksText
