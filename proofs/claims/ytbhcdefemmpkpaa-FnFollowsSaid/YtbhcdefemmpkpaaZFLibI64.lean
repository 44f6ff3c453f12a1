import Derived.Test.YtbhcdefemmpkpaaZPl
import Derived.Test.YtbhcdefemmpkpaaZG2
import Derived.Test.YtbhcdefemmpkpaaZG2
import Derived.Test.YtbhcdefemmpkpaaZG2
import Derived.Test.YtbhcdefemmpkpaaZG2
import Derived.Test.YtbhcdefemmpkpaaZG2
namespace Go.Proofs.Ytbhcdefemmpkpaa.G
open Go.RowKit Go.Proofs.YtbhcdefemmpkpaaW.PrintWords Go.Proofs.YtbhcdefemmpkpaaW.PrintLast Go.Proofs.YtbhcdefemmpkpaaW.PrintMore
attribute [local go_sem] max2_int min2_int max_two min_two max_three min_three max_four min_four
set_option linter.unusedVariables false
set_option linter.unusedSimpArgs false
open Go.Proofs.Ytbhcdefemmpkpaa.Wk Go.Proofs.Ytbhcdefemmpkpaa.Pl
theorem within_tells2 (x lo hi : Int) : impl_within.f x lo hi = some (inB x lo hi) := by
  unfold impl_within.f inB
  by_cases h : lo ≤ x <;> simp [h]
theorem l00In_tells2 (x lo hi : Int) : spec_l00In.f x lo hi = some (inB x lo hi) := by
  unfold spec_l00In.f inB
  by_cases h : lo ≤ x <;> simp [h]
theorem has_tells (l : List Int) (x : Int) (hl : l.length ≤ 1099511627776) : Ev (fun k => spec_l00Has.f k l x) (l.contains x) := by
  unfold spec_l00Has.f
  have h := ev_find (F := fun k i => spec_l00Has.l0 k l x i) l.length (fun j => l.getD j 0 == x) (fun _ => true) false (fun i hi hp r h => by
    refine Ev.step (fun k => ?_) h
    have h3 : (i : Int) < (l.length : Int) := by omega
    simp only [spec_l00Has.l0]
    rw [if_pos h3, if_pos (by omega), w_i (by omega : i < l.length) (by omega), if_neg]
    simpa [rd] using hp) (fun i hi hp => by
    refine Ev.step (fun k => ?_) (Ev.now _)
    have h3 : (i : Int) < (l.length : Int) := by omega
    simp only [spec_l00Has.l0]
    rw [if_pos h3, if_pos (by omega), if_pos]
    simpa [rd] using hp) (Ev.step (fun k => by simp only [spec_l00Has.l0]; rw [if_neg (by omega)]) (Ev.now _))
  have e := idxI_contains l x
  unfold idxI at e
  rw [← e]
  cases hf : (List.range l.length).find? (fun j => l.getD j 0 == x) with
  | none => rw [hf] at h; exact h
  | some j => rw [hf] at h; simpa using h
theorem index_tells (l : List Int) (x : Int) (hl : l.length ≤ 1099511627776) : Ev (fun k => slices_Index_int64_int64.f k l x) (idxI l x) := by
  unfold slices_Index_int64_int64.f idxI
  exact ev_find (F := fun k i => slices_Index_int64_int64.l0 k l x (l.length : Int) i) l.length (fun j => l.getD j 0 == x) (fun j => (j : Int)) (-1) (fun i hi hp r h => by
    refine Ev.step (fun k => ?_) h
    have h3 : (i : Int) < (l.length : Int) := by omega
    simp only [slices_Index_int64_int64.l0]
    rw [if_pos h3, if_pos (by omega), if_pos h3, w_i (by omega : i < l.length) (by omega), if_neg]
    simp only [beq_eq_false_iff_ne] at hp
    exact fun h => hp h.symm) (fun i hi hp => by
    refine Ev.step (fun k => ?_) (Ev.now _)
    have h3 : (i : Int) < (l.length : Int) := by omega
    simp only [slices_Index_int64_int64.l0]
    rw [if_pos h3, if_pos (by omega), if_pos h3, if_pos]
    simp only [beq_iff_eq] at hp
    exact hp.symm) (Ev.step (fun k => by simp only [slices_Index_int64_int64.l0]; rw [if_neg (by omega)]) (Ev.now _))
theorem contains_tells (l : List Int) (x : Int) (hl : l.length ≤ 1099511627776) : Ev (fun k => slices_Contains_int64_int64.f k l x) (l.contains x) := by
  unfold slices_Contains_int64_int64.f
  refine Ev.bind (index_tells l x hl) ?_
  rw [← idxI_contains]
  exact Ev.now _
end Go.Proofs.Ytbhcdefemmpkpaa.G
