import Derived.Test.YthkifkfnlmjafaaZPl
import Derived.Test.YthkifkfnlmjafaaZG2
import Derived.Test.YthkifkfnlmjafaaZG2
import Derived.Test.YthkifkfnlmjafaaZG2
namespace Go.Proofs.Ythkifkfnlmjafaa.G
open Go.RowKit Go.Proofs.YthkifkfnlmjafaaW.PrintWords Go.Proofs.YthkifkfnlmjafaaW.PrintLast Go.Proofs.YthkifkfnlmjafaaW.PrintMore
attribute [local go_sem] max2_int min2_int max_two min_two max_three min_three max_four min_four
set_option linter.unusedVariables false
set_option linter.unusedSimpArgs false
open Go.Proofs.Ythkifkfnlmjafaa.Wk Go.Proofs.Ythkifkfnlmjafaa.Pl
theorem toRow_tells (l : List Int) (hl : l.length * 1 ≤ 140737488351232) : ∀ k, l.length < k → laws_toRow.f k l = some (l) := by
  intro k hk
  unfold laws_toRow.f
  rw [if_pos (by omega), if_pos (by simp only [Int.toNat_natCast]; omega), Int.toNat_natCast]
  have h := fill_loop (F := fun k i x => laws_toRow.l0 k l x i) (l := List.replicate l.length 0) (by simp; omega) (fun j => l.getD j 0) (fun k i x hx hi => by
    have h1 : (i : Int) < (l.length : Int) := by simp at hi; omega
    have h2 : (i : Int) < (x.length : Int) := by rw [hx]; simp; simpa using hi
    show laws_toRow.l0 (k + 1) l x i = _
    simp only [laws_toRow.l0]
    rw [if_pos h1, if_pos (by omega), if_pos h2]
    simp only [Int.toNat_natCast]
    rfl) (fun k x hx => by
    show laws_toRow.l0 (k + 1) l x _ = _
    simp only [laws_toRow.l0]
    rw [if_neg (by simp)]) k (by simpa using hk)
  simp only [List.length_replicate] at h
  rw [h]
  have h2 := map_range l 0 id
  simp only [id, List.map_id_fun] at h2
  rw [h2]
theorem eqRow_tells (l : List Int) (hl : l.length * 1 ≤ 140737488355328) : ∀ k, l.length < k → laws_eqRow.f k l l = some true := by
  intro k hk
  unfold laws_eqRow.f
  rw [if_pos rfl]
  refine eq_loop (F := laws_eqRow.l0) (by omega) (fun k i hi => ?_) (fun k => ?_) k hk
  · have h1 : (i : Int) < (l.length : Int) := by omega
    simp only [laws_eqRow.l0]
    rw [if_pos h1, if_pos (by omega), if_pos h1]
    simp
  · simp only [laws_eqRow.l0]
    rw [if_neg (by omega)]
def mkRo (p : Int) : Int := (p) % 256
theorem markRow_tells (l : List Int) (hl : l.length ≤ 1099511627776) (q : Int) (hq : 0 ≤ q) (hq2 : q ≤ 1152921504606846976) : ∀ k, l.length < k → laws_markRow.f k l q = some (cnt q 1 l.length, (List.range l.length).map fun j => mkRo (cnt q 1 j)) := by
  intro k hk
  unfold laws_markRow.f
  refine mark_loop (F := laws_markRow.l0) (c := 1) mkRo hl (by omega) hq hq2 (fun k i x p h0 h1 hi => ?_) (fun k x p => ?_) k hk
  · have h2 : (i : Int) < (x.length : Int) := by omega
    have w1 : wrap64 (p + 1) = p + 1 := w_id (by omega) (by omega)
    simp only [laws_markRow.l0]
    rw [if_pos h2, if_pos (by omega)]
    simp only [Option.bind_some, Int.toNat_natCast, w1]
    rfl
  · simp only [laws_markRow.l0]
    rw [if_neg (by omega)]
end Go.Proofs.Ythkifkfnlmjafaa.G
