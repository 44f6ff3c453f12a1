import Derived.Lib.SlicesCompact
import Derived.Lib.RowBridge
import Derived.Test.YtbhcdefemmpkpaaZPl
namespace Go.Proofs.Ytbhcdefemmpkpaa.G
open Go.RowKit Go.Proofs.YtbhcdefemmpkpaaW.PrintWords Go.Proofs.YtbhcdefemmpkpaaW.PrintLast Go.Proofs.YtbhcdefemmpkpaaW.PrintMore
attribute [local go_sem] max2_int min2_int max_two min_two max_three min_three max_four min_four
set_option linter.unusedVariables false
set_option linter.unusedSimpArgs false
namespace RevPlain
open Go.Lib
theorem compact_len (zs : List Int) : (compact zs).length = zs.length ↔ ∀ j, j < zs.length → keeps zs.toArray j = true := by
  unfold compact compactUpTo
  rw [List.length_map]
  have h : ((List.range zs.length).filter (keeps zs.toArray)).length = (List.range zs.length).length ↔ ∀ j ∈ List.range zs.length, keeps zs.toArray j = true := List.length_filter_eq_length_iff
  rw [List.length_range] at h
  rw [h]
  simp
theorem nodup_sorted (zs : List Int) (hs : zs.Pairwise (· ≤ ·)) : (∀ j, j < zs.length → keeps zs.toArray j = true) ↔ zs.Nodup := by
  have get : ∀ j (h : j < zs.length), zs.toArray[j]! = zs[j] := fun j h => by simp [h]
  have hle := List.pairwise_iff_getElem.1 hs
  constructor
  · intro h
    have hne : ∀ j (h1 : j < zs.length), 0 < j → zs[j - 1] < zs[j] := by
      intro j h1 h0
      have := h j h1
      unfold keeps at this
      rw [decide_eq_true_eq] at this
      rcases this with h2 | h2
      · omega
      · rw [get j h1, get (j - 1) (by omega)] at h2
        have := hle (j - 1) j (by omega) h1 (by omega)
        omega
    refine List.pairwise_iff_getElem.2 fun i j hi hj hij => ?_
    have h1 := hne j hj (by omega)
    by_cases e : i = j - 1
    · subst e; omega
    · have := hle i (j - 1) hi (by omega) (by omega)
      omega
  · intro h j hj
    unfold keeps
    rw [decide_eq_true_eq]
    by_cases h0 : j = 0
    · left; exact h0
    · right
      rw [get j hj, get (j - 1) (by omega)]
      have := List.pairwise_iff_getElem.1 h (j - 1) j (by omega) hj (by omega)
      exact fun e => this e.symm
theorem nodup_all (l : List Int) : l.Nodup ↔ ((List.range l.length).all fun j => !((l.take j).contains (l.getD j 0))) = true := by
  rw [List.all_eq_true]
  constructor
  · intro h j hj
    have hj := List.mem_range.1 hj
    rw [Bool.not_eq_true', List.contains_eq_mem, decide_eq_false_iff_not]
    intro hm
    obtain ⟨i, hi, e⟩ := List.getElem_of_mem hm
    have hi' : i < j := by rw [List.length_take] at hi; omega
    have := List.pairwise_iff_getElem.1 h i j (by omega) hj hi'
    rw [List.getElem_take] at e
    rw [e] at this
    simp [List.getD, hj] at this
  · intro h
    refine List.pairwise_iff_getElem.2 fun i j hi hj hij e => ?_
    have := h j (List.mem_range.2 hj)
    rw [Bool.not_eq_true', List.contains_eq_mem, decide_eq_false_iff_not] at this
    apply this
    have : l.getD j 0 = (l.take j)[i]'(by rw [List.length_take]; omega) := by rw [List.getElem_take, e]; simp [List.getD, hj]
    rw [this]
    exact List.getElem_mem _
theorem dup_all (l : List Int) : decide (¬ (compact (l.mergeSort fun x y => decide (x ≤ y))).length = l.length) = !((List.range l.length).all fun j => !((l.take j).contains (l.getD j 0))) := by
  have hp := List.mergeSort_perm l fun x y => decide (x ≤ y)
  have hs : (l.mergeSort fun x y => decide (x ≤ y)).Pairwise (· ≤ ·) := by
    have := List.pairwise_mergeSort (le := fun x y : Int => decide (x ≤ y)) (fun a b c => by simp; omega) (fun a b => by simp; omega) l
    exact this.imp (fun h => by simpa using h)
  have h1 := compact_len (l.mergeSort fun x y => decide (x ≤ y))
  rw [nodup_sorted _ hs, hp.nodup_iff, nodup_all, List.length_mergeSort] at h1
  cases h2 : ((List.range l.length).all fun j => !((l.take j).contains (l.getD j 0)))
  · rw [h2] at h1
    simp only [Bool.false_eq_true, iff_false] at h1
    simp [h1]
  · rw [h2] at h1
    simp only [iff_true] at h1
    simp [h1]
end RevPlain
end Go.Proofs.Ytbhcdefemmpkpaa.G
