/- Plain laws on the helpers of the laws: PaymentS. -/
import Derived.Test.YtljkamjdpjaooaaPl
import Derived.Test.YtljkamjdpjaooaaG2
import Derived.Test.YtljkamjdpjaooaaG3
import Derived.Test.YtljkamjdpjaooaaG3
namespace Go.Proofs.Ytljkamjdpjaooaa.G
open Go.RowKit Go.Proofs.YtljkamjdpjaooaaW.PrintWords Go.Proofs.YtljkamjdpjaooaaW.PrintLast Go.Proofs.YtljkamjdpjaooaaW.PrintMore
attribute [local go_sem] max2_int min2_int max_two min_two max_three min_three max_four min_four   -- for this text's walks alone
set_option linter.unusedVariables false
set_option linter.unusedSimpArgs false

open Go.Proofs.Ytljkamjdpjaooaa.Wk Go.Proofs.Ytljkamjdpjaooaa.Pl

theorem eqPaymentS_tells (l : List S39) (hl : l.length * 16 ≤ 140737488355328) : ∀ k, l.length < k → laws_eqPaymentS.f k l l = some true := by
  intro k hk
  unfold laws_eqPaymentS.f
  rw [if_pos rfl]
  refine eq_loop (F := laws_eqPaymentS.l0) (by omega) (fun k i hi => ?_) (fun k => ?_) k hk
  · have h1 : (i : Int) < (l.length : Int) := by omega
    simp only [laws_eqPaymentS.l0]
    rw [if_pos h1, if_pos (by omega), if_pos h1]
    simp [laws_eqPayment.f]
  · simp only [laws_eqPaymentS.l0]
    rw [if_neg (by omega)]
def mkPayment (p : Int) : S39 := ⟨IntKind.i8.wrap (p), IntKind.i8.wrap (p + 1), p + 2⟩
theorem markPaymentS_tells (l : List S39) (hl : l.length ≤ 1099511627776) (q : Int) (hq : 0 ≤ q) (hq2 : q ≤ 1152921504606846976) : ∀ k, l.length < k → laws_markPaymentS.f k l q = some (cnt q 3 l.length, (List.range l.length).map fun j => mkPayment (cnt q 3 j)) := by
  intro k hk
  unfold laws_markPaymentS.f
  refine mark_loop (F := laws_markPaymentS.l0) (c := 3) mkPayment hl (by omega) hq hq2 (fun k i x p h0 h1 hi => ?_) (fun k x p => ?_) k hk
  · have h2 : (i : Int) < (x.length : Int) := by omega
    have w1 : wrap64 (p + 1) = p + 1 := w_id (by omega) (by omega)
    have w2 : wrap64 (p + 2) = p + 2 := w_id (by omega) (by omega)
    have w3 : wrap64 (p + 3) = p + 3 := w_id (by omega) (by omega)
    have v1 : p + 1 + 1 = p + 2 := by omega
    have v2 : p + 2 + 1 = p + 3 := by omega
    simp only [laws_markPaymentS.l0]
    rw [if_pos h2, if_pos (by omega)]
    simp only [Option.bind_some, Int.toNat_natCast, w1, v1, w2, v2, w3, rd_T39, List.set_set]
    simp only [getD_set_self, hi, List.length_set, List.set_set]
    rfl
  · simp only [laws_markPaymentS.l0]
    rw [if_neg (by omega)]
theorem heldPaymentS_tells (n : Nat) (hn : n ≤ 1099511627776) (q : Int) (hq : 0 ≤ q) (hq2 : q ≤ 1152921504606846976) : ∀ k, n < k → laws_heldPaymentS.f k ((List.range n).map fun j => mkPayment (cnt q 3 j)) q = some (cnt q 3 n) := by
  intro k hk
  unfold laws_heldPaymentS.f
  refine held_loop (G := laws_heldPaymentS.l0) (c := 3) mkPayment hn (by omega) hq hq2 (fun k i x p h0 h1 hi hx => ?_) (fun k x p => ?_) k hk
  · have h2 : (i : Int) < (x.length : Int) := by omega
    have w1 : wrap64 (p + 1) = p + 1 := w_id (by omega) (by omega)
    have w2 : wrap64 (p + 2) = p + 2 := w_id (by omega) (by omega)
    have w3 : wrap64 (p + 3) = p + 3 := w_id (by omega) (by omega)
    have v1 : p + 1 + 1 = p + 2 := by omega
    have v2 : p + 2 + 1 = p + 3 := by omega
    have h3 : rd_T39 x (i : Int) = mkPayment p := by rw [← hx]; simp [rd_T39, List.getD, hi]
    simp only [laws_heldPaymentS.l0]
    rw [if_pos h2, if_pos (by omega)]
    simp only [h3, w1, v1, w2, v2, w3]
    simp [mkPayment]
  · simp only [laws_heldPaymentS.l0]
    rw [if_neg (by omega)]
end Go.Proofs.Ytljkamjdpjaooaa.G
