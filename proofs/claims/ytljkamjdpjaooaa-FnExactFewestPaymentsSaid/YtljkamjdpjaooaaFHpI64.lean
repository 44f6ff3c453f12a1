/- Plain laws on the helpers of the laws: Int64S. -/
import Derived.Test.YtljkamjdpjaooaaPl
import Derived.Test.YtljkamjdpjaooaaG2
import Derived.Test.YtljkamjdpjaooaaG2
import Derived.Test.YtljkamjdpjaooaaG3
namespace Go.Proofs.Ytljkamjdpjaooaa.G
open Go.RowKit Go.Proofs.YtljkamjdpjaooaaW.PrintWords Go.Proofs.YtljkamjdpjaooaaW.PrintLast Go.Proofs.YtljkamjdpjaooaaW.PrintMore
attribute [local go_sem] max2_int min2_int max_two min_two max_three min_three max_four min_four   -- for this text's walks alone
set_option linter.unusedVariables false
set_option linter.unusedSimpArgs false

open Go.Proofs.Ytljkamjdpjaooaa.Wk Go.Proofs.Ytljkamjdpjaooaa.Pl

theorem toInt64S_tells (l : List Int) (hl : l.length * 8 ≤ 140737488351232) : ∀ k, l.length < k → laws_toInt64S.f k l = some (l) := by
  intro k hk
  unfold laws_toInt64S.f
  rw [if_pos (by omega), if_pos (by simp only [Int.toNat_natCast]; omega), Int.toNat_natCast]
  have h := fill_loop (F := fun k i x => laws_toInt64S.l0 k l x i) (l := List.replicate l.length 0) (by simp; omega) (fun j => l.getD j 0) (fun k i x hx hi => by
    have h1 : (i : Int) < (l.length : Int) := by simp at hi; omega
    have h2 : (i : Int) < (x.length : Int) := by rw [hx]; simp; simpa using hi
    show laws_toInt64S.l0 (k + 1) l x i = _
    simp only [laws_toInt64S.l0]
    rw [if_pos h1, if_pos (by omega), if_pos h2]
    simp only [Int.toNat_natCast]
    rfl) (fun k x hx => by
    show laws_toInt64S.l0 (k + 1) l x _ = _
    simp only [laws_toInt64S.l0]
    rw [if_neg (by simp)]) k (by simpa using hk)
  simp only [List.length_replicate] at h
  rw [h]
  have h2 := map_range l 0 id
  simp only [id, List.map_id_fun] at h2
  rw [h2]
theorem eqInt64S_tells (l : List Int) (hl : l.length * 8 ≤ 140737488355328) : ∀ k, l.length < k → laws_eqInt64S.f k l l = some true := by
  intro k hk
  unfold laws_eqInt64S.f
  rw [if_pos rfl]
  refine eq_loop (F := laws_eqInt64S.l0) (by omega) (fun k i hi => ?_) (fun k => ?_) k hk
  · have h1 : (i : Int) < (l.length : Int) := by omega
    simp only [laws_eqInt64S.l0]
    rw [if_pos h1, if_pos (by omega), if_pos h1]
    simp
  · simp only [laws_eqInt64S.l0]
    rw [if_neg (by omega)]
def mkInt64 (p : Int) : Int := p
theorem markInt64S_tells (l : List Int) (hl : l.length ≤ 1099511627776) (q : Int) (hq : 0 ≤ q) (hq2 : q ≤ 1152921504606846976) : ∀ k, l.length < k → laws_markInt64S.f k l q = some (cnt q 1 l.length, (List.range l.length).map fun j => mkInt64 (cnt q 1 j)) := by
  intro k hk
  unfold laws_markInt64S.f
  refine mark_loop (F := laws_markInt64S.l0) (c := 1) mkInt64 hl (by omega) hq hq2 (fun k i x p h0 h1 hi => ?_) (fun k x p => ?_) k hk
  · have h2 : (i : Int) < (x.length : Int) := by omega
    have w1 : wrap64 (p + 1) = p + 1 := w_id (by omega) (by omega)
    simp only [laws_markInt64S.l0]
    rw [if_pos h2, if_pos (by omega)]
    simp only [Option.bind_some, Int.toNat_natCast, w1]
    rfl
  · simp only [laws_markInt64S.l0]
    rw [if_neg (by omega)]
end Go.Proofs.Ytljkamjdpjaooaa.G
