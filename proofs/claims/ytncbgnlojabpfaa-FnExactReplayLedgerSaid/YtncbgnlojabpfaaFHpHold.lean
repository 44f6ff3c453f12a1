/- Plain laws on the helpers of the laws: HoldingS. -/
import Derived.Test.YtncbgnlojabpfaaPl
import Derived.Test.YtncbgnlojabpfaaG2
import Derived.Test.YtncbgnlojabpfaaG7
import Derived.Test.YtncbgnlojabpfaaG7
import Derived.Test.YtncbgnlojabpfaaFEqHold
namespace Go.Proofs.Ytncbgnlojabpfaa.G
open Go.RowKit Go.Proofs.YtncbgnlojabpfaaW.PrintWords Go.Proofs.YtncbgnlojabpfaaW.PrintLast Go.Proofs.YtncbgnlojabpfaaW.PrintMore
attribute [local go_sem] max2_int min2_int max_two min_two max_three min_three max_four min_four   -- for this text's walks alone
set_option linter.unusedVariables false
set_option linter.unusedSimpArgs false

open Go.Proofs.Ytncbgnlojabpfaa.Wk Go.Proofs.Ytncbgnlojabpfaa.Pl

def cHolding (x : S73) : S71 := ⟨x.f0, x.f1, x.f2, x.f3, x.f4⟩
theorem toHoldingS_tells (l : List S73) (hl : l.length * 40 ≤ 140737488351232) : ∀ k, l.length < k → laws_toHoldingS.f k l = some (l.map cHolding) := by
  intro k hk
  unfold laws_toHoldingS.f
  rw [if_pos (by omega), if_pos (by simp only [Int.toNat_natCast]; omega), Int.toNat_natCast]
  have h := fill_loop (F := fun k i x => laws_toHoldingS.l0 k l x i) (l := List.replicate l.length z71) (by simp; omega) (fun j => cHolding (l.getD j z73)) (fun k i x hx hi => by
    have h1 : (i : Int) < (l.length : Int) := by simp at hi; omega
    have h2 : (i : Int) < (x.length : Int) := by rw [hx]; simp; simpa using hi
    show laws_toHoldingS.l0 (k + 1) l x i = _
    simp only [laws_toHoldingS.l0, laws_toHolding.f, Option.bind_some]
    rw [if_pos h1, if_pos (by omega), if_pos h2]
    simp only [Int.toNat_natCast]
    rfl) (fun k x hx => by
    show laws_toHoldingS.l0 (k + 1) l x _ = _
    simp only [laws_toHoldingS.l0]
    rw [if_neg (by simp)]) k (by simpa using hk)
  simp only [List.length_replicate] at h
  rw [h]
  rw [show ((List.range l.length).map fun j => cHolding (l.getD j z73)) = l.map cHolding from map_range l z73 cHolding]
def mkHolding (p : Int) : S71 := ⟨p, p + 1, p + 2, p + 3, p + 4⟩
theorem markHoldingS_tells (l : List S71) (hl : l.length ≤ 1099511627776) (q : Int) (hq : 0 ≤ q) (hq2 : q ≤ 1152921504606846976) : ∀ k, l.length < k → laws_markHoldingS.f k l q = some (cnt q 5 l.length, (List.range l.length).map fun j => mkHolding (cnt q 5 j)) := by
  intro k hk
  unfold laws_markHoldingS.f
  refine mark_loop (F := laws_markHoldingS.l0) (c := 5) mkHolding hl (by omega) hq hq2 (fun k i x p h0 h1 hi => ?_) (fun k x p => ?_) k hk
  · have h2 : (i : Int) < (x.length : Int) := by omega
    have w1 : wrap64 (p + 1) = p + 1 := w_id (by omega) (by omega)
    have w2 : wrap64 (p + 2) = p + 2 := w_id (by omega) (by omega)
    have w3 : wrap64 (p + 3) = p + 3 := w_id (by omega) (by omega)
    have w4 : wrap64 (p + 4) = p + 4 := w_id (by omega) (by omega)
    have w5 : wrap64 (p + 5) = p + 5 := w_id (by omega) (by omega)
    have v1 : p + 1 + 1 = p + 2 := by omega
    have v2 : p + 2 + 1 = p + 3 := by omega
    have v3 : p + 3 + 1 = p + 4 := by omega
    have v4 : p + 4 + 1 = p + 5 := by omega
    simp only [laws_markHoldingS.l0]
    rw [if_pos h2, if_pos (by omega)]
    simp only [Option.bind_some, Int.toNat_natCast, w1, v1, w2, v2, w3, v3, w4, v4, w5, rd_T71, List.set_set]
    simp only [getD_set_self, hi, List.length_set, List.set_set]
    rfl
  · simp only [laws_markHoldingS.l0]
    rw [if_neg (by omega)]
theorem heldHoldingS_tells (n : Nat) (hn : n ≤ 1099511627776) (q : Int) (hq : 0 ≤ q) (hq2 : q ≤ 1152921504606846976) : ∀ k, n < k → laws_heldHoldingS.f k ((List.range n).map fun j => mkHolding (cnt q 5 j)) q = some (cnt q 5 n) := by
  intro k hk
  unfold laws_heldHoldingS.f
  refine held_loop (G := laws_heldHoldingS.l0) (c := 5) mkHolding hn (by omega) hq hq2 (fun k i x p h0 h1 hi hx => ?_) (fun k x p => ?_) k hk
  · have h2 : (i : Int) < (x.length : Int) := by omega
    have w1 : wrap64 (p + 1) = p + 1 := w_id (by omega) (by omega)
    have w2 : wrap64 (p + 2) = p + 2 := w_id (by omega) (by omega)
    have w3 : wrap64 (p + 3) = p + 3 := w_id (by omega) (by omega)
    have w4 : wrap64 (p + 4) = p + 4 := w_id (by omega) (by omega)
    have w5 : wrap64 (p + 5) = p + 5 := w_id (by omega) (by omega)
    have v1 : p + 1 + 1 = p + 2 := by omega
    have v2 : p + 2 + 1 = p + 3 := by omega
    have v3 : p + 3 + 1 = p + 4 := by omega
    have v4 : p + 4 + 1 = p + 5 := by omega
    have h3 : rd_T71 x (i : Int) = mkHolding p := by rw [← hx]; simp [rd_T71, List.getD, hi]
    simp only [laws_heldHoldingS.l0]
    rw [if_pos h2, if_pos (by omega)]
    simp only [h3, w1, v1, w2, v2, w3, v3, w4, v4, w5]
    simp [mkHolding]
  · simp only [laws_heldHoldingS.l0]
    rw [if_neg (by omega)]
end Go.Proofs.Ytncbgnlojabpfaa.G
