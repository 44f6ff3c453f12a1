/- Plain laws on the helpers of the laws: Marks (rows of rows). -/
import Derived.Test.YthkifkfnlmjafaaDoorPl
import Derived.Test.YthkifkfnlmjafaaDoorFHpI64
import Derived.Test.YthkifkfnlmjafaaDoorG1
namespace Go.Proofs.YthkifkfnlmjafaaDoor.G
open Go.RowKit Go.Proofs.YthkifkfnlmjafaaDoorW.PrintWords Go.Proofs.YthkifkfnlmjafaaDoorW.PrintLast Go.Proofs.YthkifkfnlmjafaaDoorW.PrintMore
attribute [local go_sem] max2_int min2_int max_two min_two max_three min_three max_four min_four   -- for this text's walks alone
set_option linter.unusedVariables false
set_option linter.unusedSimpArgs false

open Go.Proofs.YthkifkfnlmjafaaDoor.Wk Go.Proofs.YthkifkfnlmjafaaDoor.Pl

theorem eqMarks_tells (l : List (List Int)) (hl : l.length ≤ 1048576) (hx : ∀ x ∈ l, (x.length : Int) ≤ 1048576) : Ev (fun k => laws_eqMarks.f k l l) true := by
  unfold laws_eqMarks.f
  simp only [if_true]
  exact ev_steps (F := fun k i (_ : Unit) => laws_eqMarks.l0 k l l i) 0 l.length (Nat.zero_le _) (fun _ => ()) true (fun i _ hi h => by
    have hx1 : ((l.getD i []).length : Int) ≤ 1048576 := by rw [getD_lt hi]; exact hx _ (List.getElem_mem hi)
    refine Ev.step (fun k => laws_eqMarks.l0.eq_2 l l i k) ?_
    simp only [if_pos (show (i : Int) < (l.length : Int) by omega), if_pos (show (0 : Int) ≤ (i : Int) by omega)]
    refine Ev.bind (ev_of (eqInt64S_tells (l.getD i []) (by omega))) ?_
    simp only [if_true, w_i hi (show l.length ≤ 4611686018427387904 by omega)]
    exact h) (by
    refine Ev.step (fun k => laws_eqMarks.l0.eq_2 l l l.length k) ?_
    simp only [if_neg (show ¬ ((l.length : Int) < (l.length : Int)) by omega)]
    exact Ev.now _)
end Go.Proofs.YthkifkfnlmjafaaDoor.G
