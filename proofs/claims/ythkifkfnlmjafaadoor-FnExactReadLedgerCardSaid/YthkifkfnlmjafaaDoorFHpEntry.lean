/- Plain laws on the helpers of the laws: EntryS. -/
import Derived.Test.YthkifkfnlmjafaaDoorPl
import Derived.Test.YthkifkfnlmjafaaDoorG3
import Derived.Test.YthkifkfnlmjafaaDoorG3
import Derived.Test.YthkifkfnlmjafaaDoorFEqEntry
namespace Go.Proofs.YthkifkfnlmjafaaDoor.G
open Go.RowKit Go.Proofs.YthkifkfnlmjafaaDoorW.PrintWords Go.Proofs.YthkifkfnlmjafaaDoorW.PrintLast Go.Proofs.YthkifkfnlmjafaaDoorW.PrintMore
attribute [local go_sem] max2_int min2_int max_two min_two max_three min_three max_four min_four   -- for this text's walks alone
set_option linter.unusedVariables false
set_option linter.unusedSimpArgs false

open Go.Proofs.YthkifkfnlmjafaaDoor.Wk Go.Proofs.YthkifkfnlmjafaaDoor.Pl

def mkEntry (p : Int) : S61 := ⟨IntKind.i16.wrap (p), IntKind.i8.wrap (p + 1), IntKind.i8.wrap (p + 2), (p + 3) % 256, IntKind.i16.wrap (p + 4)⟩
theorem markEntryS_tells (l : List S61) (hl : l.length ≤ 1099511627776) (q : Int) (hq : 0 ≤ q) (hq2 : q ≤ 1152921504606846976) : ∀ k, l.length < k → laws_markEntryS.f k l q = some (cnt q 5 l.length, (List.range l.length).map fun j => mkEntry (cnt q 5 j)) := by
  intro k hk
  unfold laws_markEntryS.f
  refine mark_loop (F := laws_markEntryS.l0) (c := 5) mkEntry hl (by omega) hq hq2 (fun k i x p h0 h1 hi => ?_) (fun k x p => ?_) k hk
  · have h2 : (i : Int) < (x.length : Int) := by omega
    have w1 : wrap64 (p + 1) = p + 1 := w_id (by omega) (by omega)
    have w2 : wrap64 (p + 2) = p + 2 := w_id (by omega) (by omega)
    have w3 : wrap64 (p + 3) = p + 3 := w_id (by omega) (by omega)
    have w4 : wrap64 (p + 4) = p + 4 := w_id (by omega) (by omega)
    have w5 : wrap64 (p + 5) = p + 5 := w_id (by omega) (by omega)
    have v1 : p + 1 + 1 = p + 2 := by omega
    have v2 : p + 2 + 1 = p + 3 := by omega
    have v3 : p + 3 + 1 = p + 4 := by omega
    have v4 : p + 4 + 1 = p + 5 := by omega
    simp only [laws_markEntryS.l0]
    rw [if_pos h2, if_pos (by omega)]
    simp only [Option.bind_some, Int.toNat_natCast, w1, v1, w2, v2, w3, v3, w4, v4, w5, rd_T61, List.set_set]
    simp only [getD_set_self, hi, List.length_set, List.set_set]
    rfl
  · simp only [laws_markEntryS.l0]
    rw [if_neg (by omega)]
theorem heldEntryS_tells (n : Nat) (hn : n ≤ 1099511627776) (q : Int) (hq : 0 ≤ q) (hq2 : q ≤ 1152921504606846976) : ∀ k, n < k → laws_heldEntryS.f k ((List.range n).map fun j => mkEntry (cnt q 5 j)) q = some (cnt q 5 n) := by
  intro k hk
  unfold laws_heldEntryS.f
  refine held_loop (G := laws_heldEntryS.l0) (c := 5) mkEntry hn (by omega) hq hq2 (fun k i x p h0 h1 hi hx => ?_) (fun k x p => ?_) k hk
  · have h2 : (i : Int) < (x.length : Int) := by omega
    have w1 : wrap64 (p + 1) = p + 1 := w_id (by omega) (by omega)
    have w2 : wrap64 (p + 2) = p + 2 := w_id (by omega) (by omega)
    have w3 : wrap64 (p + 3) = p + 3 := w_id (by omega) (by omega)
    have w4 : wrap64 (p + 4) = p + 4 := w_id (by omega) (by omega)
    have w5 : wrap64 (p + 5) = p + 5 := w_id (by omega) (by omega)
    have v1 : p + 1 + 1 = p + 2 := by omega
    have v2 : p + 2 + 1 = p + 3 := by omega
    have v3 : p + 3 + 1 = p + 4 := by omega
    have v4 : p + 4 + 1 = p + 5 := by omega
    have h3 : rd_T61 x (i : Int) = mkEntry p := by rw [← hx]; simp [rd_T61, List.getD, hi]
    simp only [laws_heldEntryS.l0]
    rw [if_pos h2, if_pos (by omega)]
    simp only [h3, w1, v1, w2, v2, w3, v3, w4, v4, w5]
    simp [mkEntry]
  · simp only [laws_heldEntryS.l0]
    rw [if_neg (by omega)]
end Go.Proofs.YthkifkfnlmjafaaDoor.G
