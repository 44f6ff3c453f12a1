import Derived.Test.YtbhcdefemmpkpaaZPl
import Derived.Test.YtbhcdefemmpkpaaZG2
import Derived.Test.YtbhcdefemmpkpaaZG3
import Derived.Test.YtbhcdefemmpkpaaZG2
import Derived.Test.YtbhcdefemmpkpaaZG2
namespace Go.Proofs.Ytbhcdefemmpkpaa.G
open Go.RowKit Go.Proofs.YtbhcdefemmpkpaaW.PrintWords Go.Proofs.YtbhcdefemmpkpaaW.PrintLast Go.Proofs.YtbhcdefemmpkpaaW.PrintMore
attribute [local go_sem] max2_int min2_int max_two min_two max_three min_three max_four min_four
set_option linter.unusedVariables false
set_option linter.unusedSimpArgs false
open Go.Proofs.Ytbhcdefemmpkpaa.Wk Go.Proofs.Ytbhcdefemmpkpaa.Pl
namespace Same
theorem l00 (l : List Int) (hl : l.length ≤ 1099511627776) : Ev (fun k => spec_l00Same.f k l l) true := by
  unfold spec_l00Same.f
  simp only [if_true]
  refine ev_steps (F := fun k i (_ : Unit) => spec_l00Same.l0 k l l i) 0 l.length (Nat.zero_le _) (fun _ => ()) true (fun i _ hi h => ?_) ?_
  · refine Ev.step (fun k => spec_l00Same.l0.eq_2 _ _ _ k) ?_
    simp only [if_pos (show (i : Int) < (l.length : Int) by omega), if_pos (show (0 : Int) ≤ (i : Int) by omega), if_true, w_i hi (show l.length ≤ 4611686018427387904 by omega)]
    exact h
  · refine Ev.step (fun k => spec_l00Same.l0.eq_2 _ _ _ k) ?_
    simp only [if_neg (show ¬ ((l.length : Int) < (l.length : Int)) by omega)]
    exact Ev.now _
theorem numbers (l : List Int) (hl : l.length ≤ 1099511627776) : Ev (fun k => spec_SameNumbers.f k l l) true := by
  unfold spec_SameNumbers.f
  exact Ev.bind (l00 l hl) (Ev.now _)
theorem tables (l : List (List Int)) (hl : l.length ≤ 1099511627776) (hx : ∀ i : Nat, i < l.length → (l.getD i []).length ≤ 1099511627776) : Ev (fun k => spec_SameTables.f k l l) true := by
  unfold spec_SameTables.f
  refine Ev.bind ?_ (Ev.now _)
  unfold spec_l07Same.f
  simp only [if_true]
  refine ev_steps (F := fun k i (_ : Unit) => spec_l07Same.l0 k l l i) 0 l.length (Nat.zero_le _) (fun _ => ()) true (fun i _ hi h => ?_) ?_
  · refine Ev.step (fun k => spec_l07Same.l0.eq_2 _ _ _ k) ?_
    simp only [if_pos (show (i : Int) < (l.length : Int) by omega), if_pos (show (0 : Int) ≤ (i : Int) by omega), w_i hi (show l.length ≤ 4611686018427387904 by omega)]
    refine Ev.bind (l00 (l.getD i []) (hx i hi)) ?_
    simp only [if_true]
    exact h
  · refine Ev.step (fun k => spec_l07Same.l0.eq_2 _ _ _ k) ?_
    simp only [if_neg (show ¬ ((l.length : Int) < (l.length : Int)) by omega)]
    exact Ev.now _
end Same
end Go.Proofs.Ytbhcdefemmpkpaa.G
