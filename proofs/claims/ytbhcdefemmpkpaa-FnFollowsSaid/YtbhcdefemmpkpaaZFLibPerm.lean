import Derived.Test.YtbhcdefemmpkpaaZPl
namespace Go.Proofs.Ytbhcdefemmpkpaa.G
open Go.RowKit Go.Proofs.YtbhcdefemmpkpaaW.PrintWords Go.Proofs.YtbhcdefemmpkpaaW.PrintLast Go.Proofs.YtbhcdefemmpkpaaW.PrintMore
attribute [local go_sem] max2_int min2_int max_two min_two max_three min_three max_four min_four
set_option linter.unusedVariables false
set_option linter.unusedSimpArgs false
open Go.Proofs.Ytbhcdefemmpkpaa.Wk Go.Proofs.Ytbhcdefemmpkpaa.Pl
theorem nodup_bound : ∀ (n : Nat) (l : List Int), l.Nodup → (∀ x ∈ l, 0 ≤ x ∧ x < n) → l.length ≤ n
  | 0, l, _, h => by
    cases l with
    | nil => simp
    | cons a l => have := h a (by simp); omega
  | n + 1, l, hn, h => by
    by_cases hm : (n : Int) ∈ l
    · have h1 := nodup_bound n (l.erase n) (List.Nodup.erase (n : Int) hn) (fun x hx => by
        have h2 := (hn.mem_erase_iff).1 hx
        have := h x h2.2
        have := h2.1
        omega)
      rw [List.length_erase_of_mem hm] at h1
      omega
    · have h1 := nodup_bound n l hn (fun x hx => by
        have h2 := h x hx
        have : x ≠ n := fun e => hm (e ▸ hx)
        omega)
      omega
theorem nodup_full (n : Nat) (l : List Int) (hn : l.Nodup) (h : ∀ x ∈ l, 0 ≤ x ∧ x < n) (hl : l.length = n) (x : Int) (h0 : 0 ≤ x) (h1 : x < n) : x ∈ l := by
  refine Decidable.byContradiction fun hx => ?_
  have := nodup_bound n (x :: l) (List.nodup_cons.2 ⟨hx, hn⟩) (fun y hy => by
    rcases List.mem_cons.1 hy with rfl | hy
    · exact ⟨h0, h1⟩
    · exact h y hy)
  simp at this
  omega
theorem nodup_of (l : List Int) (h : ∀ j : Nat, j < l.length → (l.take j).contains (l.getD j 0) = false) : l.Nodup := by
  rw [List.Nodup, List.pairwise_iff_getElem]
  intro i j hi hj hij e
  have := h j hj
  have hm : l[j] ∈ l.take j := by
    rw [← e]
    rw [List.mem_take_iff_getElem]
    exact ⟨i, by omega, rfl⟩
  simp [List.getD, hj, hm] at this
theorem order_has {q : Nat} {l : List Int} (hq : 1 ≤ q) (hq2 : q ≤ 8) (hl : l.length = q) (h : orderB q l = true) (x : Int) (h0 : 0 ≤ x) (h1 : x < q) : x ∈ l := by
  unfold orderB at h
  rw [w_id (by omega) (by omega)] at h
  have h2 : ∀ j : Nat, j < l.length → (0 ≤ l.getD j 0 ∧ l.getD j 0 < q) ∧ (l.take j).contains (l.getD j 0) = false := by
    intro j hj
    have := List.all_eq_true.1 h j (List.mem_range.2 hj)
    unfold inB at this
    rw [Bool.and_eq_true, Bool.and_eq_true, decide_eq_true_eq, decide_eq_true_eq, Bool.not_eq_true'] at this
    exact ⟨by omega, this.2⟩
  refine nodup_full q l (nodup_of l fun j hj => (h2 j hj).2) (fun y hy => ?_) hl x h0 h1
  obtain ⟨j, hj, rfl⟩ := List.getElem_of_mem hy
  have := (h2 j hj).1
  rwa [getD_lt hj] at this
theorem order_in {q : Nat} {l : List Int} (hq : 1 ≤ q) (hq2 : q ≤ 8) (hl : l.length = q) (h : orderB q l = true) (i : Nat) (hi : i < q) : 0 ≤ l.getD i 0 ∧ l.getD i 0 < q := by
  unfold orderB at h
  have := List.all_eq_true.1 h i (List.mem_range.2 (by omega))
  rw [w_id (by omega) (by omega)] at this
  unfold inB at this
  simp only [Bool.and_eq_true, decide_eq_true_eq] at this
  omega
end Go.Proofs.Ytbhcdefemmpkpaa.G
