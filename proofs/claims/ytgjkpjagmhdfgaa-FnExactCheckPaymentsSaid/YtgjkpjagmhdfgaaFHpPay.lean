/- Plain laws on the helpers of the laws: PaymentS. -/
import Derived.Test.YtgjkpjagmhdfgaaPl
import Derived.Test.YtgjkpjagmhdfgaaG1
import Derived.Test.YtgjkpjagmhdfgaaG2
namespace Go.Proofs.Ytgjkpjagmhdfgaa.G
open Go.RowKit Go.Proofs.YtgjkpjagmhdfgaaW.PrintWords Go.Proofs.YtgjkpjagmhdfgaaW.PrintLast Go.Proofs.YtgjkpjagmhdfgaaW.PrintMore
attribute [local go_sem] max2_int min2_int max_two min_two max_three min_three max_four min_four   -- for this text's walks alone
set_option linter.unusedVariables false
set_option linter.unusedSimpArgs false

open Go.Proofs.Ytgjkpjagmhdfgaa.Wk Go.Proofs.Ytgjkpjagmhdfgaa.Pl

def cPayment (x : S56) : S53 := ⟨x.f0, x.f1, x.f2⟩
theorem toPaymentS_tells (l : List S56) (hl : l.length * 16 ≤ 140737488351232) : ∀ k, l.length < k → laws_toPaymentS.f k l = some (l.map cPayment) := by
  intro k hk
  unfold laws_toPaymentS.f
  rw [if_pos (by omega), if_pos (by simp only [Int.toNat_natCast]; omega), Int.toNat_natCast]
  have h := fill_loop (F := fun k i x => laws_toPaymentS.l0 k l x i) (l := List.replicate l.length z53) (by simp; omega) (fun j => cPayment (l.getD j z56)) (fun k i x hx hi => by
    have h1 : (i : Int) < (l.length : Int) := by simp at hi; omega
    have h2 : (i : Int) < (x.length : Int) := by rw [hx]; simp; simpa using hi
    show laws_toPaymentS.l0 (k + 1) l x i = _
    simp only [laws_toPaymentS.l0, laws_toPayment.f, Option.bind_some]
    rw [if_pos h1, if_pos (by omega), if_pos h2]
    simp only [Int.toNat_natCast]
    rfl) (fun k x hx => by
    show laws_toPaymentS.l0 (k + 1) l x _ = _
    simp only [laws_toPaymentS.l0]
    rw [if_neg (by simp)]) k (by simpa using hk)
  simp only [List.length_replicate] at h
  rw [h]
  rw [show ((List.range l.length).map fun j => cPayment (l.getD j z56)) = l.map cPayment from map_range l z56 cPayment]
theorem eqPaymentS_tells (l : List S53) (hl : l.length * 16 ≤ 140737488355328) : ∀ k, l.length < k → laws_eqPaymentS.f k l l = some true := by
  intro k hk
  unfold laws_eqPaymentS.f
  rw [if_pos rfl]
  refine eq_loop (F := laws_eqPaymentS.l0) (by omega) (fun k i hi => ?_) (fun k => ?_) k hk
  · have h1 : (i : Int) < (l.length : Int) := by omega
    simp only [laws_eqPaymentS.l0]
    rw [if_pos h1, if_pos (by omega), if_pos h1]
    simp [laws_eqPayment.f]
  · simp only [laws_eqPaymentS.l0]
    rw [if_neg (by omega)]
def mkPayment (p : Int) : S53 := ⟨IntKind.i8.wrap (p), IntKind.i8.wrap (p + 1), p + 2⟩
end Go.Proofs.Ytgjkpjagmhdfgaa.G
