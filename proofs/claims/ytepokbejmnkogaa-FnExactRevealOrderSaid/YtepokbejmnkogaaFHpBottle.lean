/- Plain laws on the helpers of the laws: BottleS. -/
import Derived.Test.YtepokbejmnkogaaPl
import Derived.Test.YtepokbejmnkogaaG1
import Derived.Test.YtepokbejmnkogaaG1
import Derived.Test.YtepokbejmnkogaaG2
import Derived.Test.YtepokbejmnkogaaG2
namespace Go.Proofs.Ytepokbejmnkogaa.G
open Go.RowKit Go.Proofs.YtepokbejmnkogaaW.PrintWords Go.Proofs.YtepokbejmnkogaaW.PrintLast Go.Proofs.YtepokbejmnkogaaW.PrintMore
attribute [local go_sem] max2_int min2_int max_two min_two max_three min_three max_four min_four   -- for this text's walks alone
set_option linter.unusedVariables false
set_option linter.unusedSimpArgs false

open Go.Proofs.Ytepokbejmnkogaa.Wk Go.Proofs.Ytepokbejmnkogaa.Pl

def cBottle (x : S76) : S71 := ⟨x.f0, x.f1⟩
theorem toBottleS_tells (l : List S76) (hl : l.length * 4 ≤ 140737488351232) : ∀ k, l.length < k → laws_toBottleS.f k l = some (l.map cBottle) := by
  intro k hk
  unfold laws_toBottleS.f
  rw [if_pos (by omega), if_pos (by simp only [Int.toNat_natCast]; omega), Int.toNat_natCast]
  have h := fill_loop (F := fun k i x => laws_toBottleS.l0 k l x i) (l := List.replicate l.length z71) (by simp; omega) (fun j => cBottle (l.getD j z76)) (fun k i x hx hi => by
    have h1 : (i : Int) < (l.length : Int) := by simp at hi; omega
    have h2 : (i : Int) < (x.length : Int) := by rw [hx]; simp; simpa using hi
    show laws_toBottleS.l0 (k + 1) l x i = _
    simp only [laws_toBottleS.l0, laws_toBottle.f, Option.bind_some]
    rw [if_pos h1, if_pos (by omega), if_pos h2]
    simp only [Int.toNat_natCast]
    rfl) (fun k x hx => by
    show laws_toBottleS.l0 (k + 1) l x _ = _
    simp only [laws_toBottleS.l0]
    rw [if_neg (by simp)]) k (by simpa using hk)
  simp only [List.length_replicate] at h
  rw [h]
  rw [show ((List.range l.length).map fun j => cBottle (l.getD j z76)) = l.map cBottle from map_range l z76 cBottle]
theorem eqBottleS_tells (l : List S71) (hl : l.length * 4 ≤ 140737488355328) : ∀ k, l.length < k → laws_eqBottleS.f k l l = some true := by
  intro k hk
  unfold laws_eqBottleS.f
  rw [if_pos rfl]
  refine eq_loop (F := laws_eqBottleS.l0) (by omega) (fun k i hi => ?_) (fun k => ?_) k hk
  · have h1 : (i : Int) < (l.length : Int) := by omega
    simp only [laws_eqBottleS.l0]
    rw [if_pos h1, if_pos (by omega), if_pos h1]
    simp [laws_eqBottle.f]
  · simp only [laws_eqBottleS.l0]
    rw [if_neg (by omega)]
def mkBottle (p : Int) : S71 := ⟨(p) % 256, IntKind.i16.wrap (p + 1)⟩
theorem markBottleS_tells (l : List S71) (hl : l.length ≤ 1099511627776) (q : Int) (hq : 0 ≤ q) (hq2 : q ≤ 1152921504606846976) : ∀ k, l.length < k → laws_markBottleS.f k l q = some (cnt q 2 l.length, (List.range l.length).map fun j => mkBottle (cnt q 2 j)) := by
  intro k hk
  unfold laws_markBottleS.f
  refine mark_loop (F := laws_markBottleS.l0) (c := 2) mkBottle hl (by omega) hq hq2 (fun k i x p h0 h1 hi => ?_) (fun k x p => ?_) k hk
  · have h2 : (i : Int) < (x.length : Int) := by omega
    have w1 : wrap64 (p + 1) = p + 1 := w_id (by omega) (by omega)
    have w2 : wrap64 (p + 2) = p + 2 := w_id (by omega) (by omega)
    have v1 : p + 1 + 1 = p + 2 := by omega
    simp only [laws_markBottleS.l0]
    rw [if_pos h2, if_pos (by omega)]
    simp only [Option.bind_some, Int.toNat_natCast, w1, v1, w2, rd_T71, List.set_set]
    simp only [getD_set_self, hi, List.length_set, List.set_set]
    rfl
  · simp only [laws_markBottleS.l0]
    rw [if_neg (by omega)]
theorem heldBottleS_tells (n : Nat) (hn : n ≤ 1099511627776) (q : Int) (hq : 0 ≤ q) (hq2 : q ≤ 1152921504606846976) : ∀ k, n < k → laws_heldBottleS.f k ((List.range n).map fun j => mkBottle (cnt q 2 j)) q = some (cnt q 2 n) := by
  intro k hk
  unfold laws_heldBottleS.f
  refine held_loop (G := laws_heldBottleS.l0) (c := 2) mkBottle hn (by omega) hq hq2 (fun k i x p h0 h1 hi hx => ?_) (fun k x p => ?_) k hk
  · have h2 : (i : Int) < (x.length : Int) := by omega
    have w1 : wrap64 (p + 1) = p + 1 := w_id (by omega) (by omega)
    have w2 : wrap64 (p + 2) = p + 2 := w_id (by omega) (by omega)
    have v1 : p + 1 + 1 = p + 2 := by omega
    have h3 : rd_T71 x (i : Int) = mkBottle p := by rw [← hx]; simp [rd_T71, List.getD, hi]
    simp only [laws_heldBottleS.l0]
    rw [if_pos h2, if_pos (by omega)]
    simp only [h3, w1, v1, w2]
    simp [mkBottle]
  · simp only [laws_heldBottleS.l0]
    rw [if_neg (by omega)]
end Go.Proofs.Ytepokbejmnkogaa.G
