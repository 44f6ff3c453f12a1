/- Plain laws on the helpers of the laws: Int64S. -/
import Derived.Test.YthkifkfnlmjafaaDoorPl
import Derived.Test.YthkifkfnlmjafaaDoorG1
import Derived.Test.YthkifkfnlmjafaaDoorG1
import Derived.Test.YthkifkfnlmjafaaDoorG1
namespace Go.Proofs.YthkifkfnlmjafaaDoor.G
open Go.RowKit Go.Proofs.YthkifkfnlmjafaaDoorW.PrintWords Go.Proofs.YthkifkfnlmjafaaDoorW.PrintLast Go.Proofs.YthkifkfnlmjafaaDoorW.PrintMore
attribute [local go_sem] max2_int min2_int max_two min_two max_three min_three max_four min_four   -- for this text's walks alone
set_option linter.unusedVariables false
set_option linter.unusedSimpArgs false

open Go.Proofs.YthkifkfnlmjafaaDoor.Wk Go.Proofs.YthkifkfnlmjafaaDoor.Pl

theorem eqInt64S_tells (l : List Int) (hl : l.length * 8 ≤ 140737488355328) : ∀ k, l.length < k → laws_eqInt64S.f k l l = some true := by
  intro k hk
  unfold laws_eqInt64S.f
  rw [if_pos rfl]
  refine eq_loop (F := laws_eqInt64S.l0) (by omega) (fun k i hi => ?_) (fun k => ?_) k hk
  · have h1 : (i : Int) < (l.length : Int) := by omega
    simp only [laws_eqInt64S.l0]
    rw [if_pos h1, if_pos (by omega), if_pos h1]
    simp
  · simp only [laws_eqInt64S.l0]
    rw [if_neg (by omega)]
def mkInt64 (p : Int) : Int := p
theorem markInt64S_tells (l : List Int) (hl : l.length ≤ 1099511627776) (q : Int) (hq : 0 ≤ q) (hq2 : q ≤ 1152921504606846976) : ∀ k, l.length < k → laws_markInt64S.f k l q = some (cnt q 1 l.length, (List.range l.length).map fun j => mkInt64 (cnt q 1 j)) := by
  intro k hk
  unfold laws_markInt64S.f
  refine mark_loop (F := laws_markInt64S.l0) (c := 1) mkInt64 hl (by omega) hq hq2 (fun k i x p h0 h1 hi => ?_) (fun k x p => ?_) k hk
  · have h2 : (i : Int) < (x.length : Int) := by omega
    have w1 : wrap64 (p + 1) = p + 1 := w_id (by omega) (by omega)
    simp only [laws_markInt64S.l0]
    rw [if_pos h2, if_pos (by omega)]
    simp only [Option.bind_some, Int.toNat_natCast, w1]
    rfl
  · simp only [laws_markInt64S.l0]
    rw [if_neg (by omega)]
theorem heldInt64S_tells (n : Nat) (hn : n ≤ 1099511627776) (q : Int) (hq : 0 ≤ q) (hq2 : q ≤ 1152921504606846976) : ∀ k, n < k → laws_heldInt64S.f k ((List.range n).map fun j => mkInt64 (cnt q 1 j)) q = some (cnt q 1 n) := by
  intro k hk
  unfold laws_heldInt64S.f
  refine held_loop (G := laws_heldInt64S.l0) (c := 1) mkInt64 hn (by omega) hq hq2 (fun k i x p h0 h1 hi hx => ?_) (fun k x p => ?_) k hk
  · have h2 : (i : Int) < (x.length : Int) := by omega
    have w1 : wrap64 (p + 1) = p + 1 := w_id (by omega) (by omega)
    have h3 : rd x (i : Int) = mkInt64 p := by rw [← hx]; simp [rd, List.getD, hi]
    simp only [laws_heldInt64S.l0]
    rw [if_pos h2, if_pos (by omega)]
    simp only [h3, w1]
    simp [mkInt64]
  · simp only [laws_heldInt64S.l0]
    rw [if_neg (by omega)]
end Go.Proofs.YthkifkfnlmjafaaDoor.G
