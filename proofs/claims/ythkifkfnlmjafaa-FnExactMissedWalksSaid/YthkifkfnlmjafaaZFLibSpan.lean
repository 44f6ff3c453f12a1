import Derived.Test.YthkifkfnlmjafaaZFLibWalk
import Derived.Test.YthkifkfnlmjafaaZFAllW
import Derived.Test.YthkifkfnlmjafaaZG4
import Derived.Test.YthkifkfnlmjafaaZG5
import Derived.Test.YthkifkfnlmjafaaZG3
import Derived.Test.YthkifkfnlmjafaaZG3
import Derived.Test.YthkifkfnlmjafaaZFRowOn
namespace Go.Proofs.Ythkifkfnlmjafaa.G
open Go.RowKit Go.Proofs.YthkifkfnlmjafaaW.PrintWords Go.Proofs.YthkifkfnlmjafaaW.PrintLast Go.Proofs.YthkifkfnlmjafaaW.PrintMore
attribute [local go_sem] max2_int min2_int max_two min_two max_three min_three max_four min_four
set_option linter.unusedVariables false
set_option linter.unusedSimpArgs false
open Go.Proofs.Ythkifkfnlmjafaa.Wk Go.Proofs.Ythkifkfnlmjafaa.Pl
namespace LW
def spanC (v : Bool) (a b : Int) : Int := if v = true then (if (inB a 0 10000 && (inB b 0 10000 && decide (a ≤ b))) = true then (if b - a + 1 > 400 then 3 else 0) else 2) else 1
def askC (v f : Bool) : Int := if v = true then (if f = true then 0 else 2) else 1
theorem allB_two (a b lo hi : Int) : allB [a, b] lo hi = (inB a lo hi && inB b lo hi) := by simp [allB]
theorem allB_one (a lo hi : Int) : allB [a] lo hi = inB a lo hi := by simp [allB]
theorem codeOf_t (a b : Bool) : impl_codeOf.f a b = some (askC a b) := by
  unfold impl_codeOf.f askC
  cases a <;> cases b <;> rfl
theorem rowOk_t (r : List Int) (l : List W) : impl_rowOk.f r l = some (rowOkB r && walkersB r.length l) := by
  unfold impl_rowOk.f impl_ValidRow.f impl_ValidWalkers.f
  simp only [Option.bind_some]
  cases rowOkB r <;> simp
theorem asked_t (s : Int) (l : List W) (hl : l.length ≤ 1048576) (f : Bool) : Ev (fun k => spec_l05Asked.f k s l f) (askC (walkersB s l) f) := by
  unfold spec_l05Asked.f askC
  refine Ev.bind (l05Walkers_t s l hl) ?_
  cases walkersB s l
  · simp only [Bool.false_eq_true, if_false]; exact Ev.now _
  · cases f
    · simp only [Bool.false_eq_true, if_false, if_true]; exact Ev.now _
    · simp only [if_true]; exact Ev.now _
theorem row_t (r : List Int) (l : List W) (hr : r.length ≤ 1048576) (hl : l.length ≤ 1048576) (f : Bool) : Ev (fun k => spec_l05Row.f k r l f) (askC (rowOkB r && walkersB r.length l) f) := by
  unfold spec_l05Row.f
  refine Ev.bind (l05Ok_t r hr) ?_
  cases rowOkB r
  · simp only [Bool.false_eq_true, if_false, Bool.false_and]; exact Ev.now _
  · simp only [if_true, Bool.true_and]
    exact Ev.bind (asked_t _ l hl f) (Ev.now _)
theorem spanC_zero {v : Bool} {a b : Int} (h : spanC v a b = 0) : v = true ∧ 0 ≤ a ∧ a ≤ b ∧ b ≤ 10000 ∧ b - a + 1 ≤ 400 := by
  unfold spanC at h
  cases v
  · simp at h
  · by_cases h1 : (inB a 0 10000 && (inB b 0 10000 && decide (a ≤ b))) = true
    · rw [if_pos rfl, if_pos h1] at h
      by_cases h2 : b - a + 1 > 400
      · rw [if_pos h2] at h; omega
      · simp only [Bool.and_eq_true, inB_iff, decide_eq_true_eq] at h1
        exact ⟨rfl, by omega, by omega, by omega, by omega⟩
    · rw [if_pos rfl, if_neg h1] at h; omega
structure GoodR (r : List Int) (l : List W) : Prop where
  n : 1 ≤ r.length ∧ r.length ≤ 60
  seven : ∀ i : Nat, 0 ≤ r.getD i 0 ∧ r.getD i 0 ≤ 7
  l8 : l.length ≤ 8
  good : ∀ x ∈ l, GoodW r.length x
theorem goodR_of {r : List Int} {l : List W} (hr : ∀ x ∈ r, 0 ≤ x ∧ x ≤ 255) (hl : ∀ x ∈ l, SmallW x) (h : (rowOkB r && walkersB r.length l) = true) : GoodR r l := by
  rw [Bool.and_eq_true] at h
  obtain ⟨h1, h2⟩ := rowOk_is h.1
  obtain ⟨_, h4, h5⟩ := walkersB_is h.2
  refine ⟨h1, fun i => ?_, h4, fun x hx => good_of (by omega) (hl x hx) (h5 x hx)⟩
  by_cases hi : i < r.length
  · have := h2 i hi
    rw [getD_lt hi] at this ⊢
    exact ⟨(hr _ (List.getElem_mem hi)).1, this⟩
  · have e : r.getD i 0 = 0 := by simp [List.getD, List.getElem?_eq_none (show r.length ≤ i by omega)]
    omega
theorem rowOn_t {r : List Int} {l : List W} (h : GoodR r l) (d : Int) (h0 : 0 ≤ d) (h1 : d ≤ 90000000) : Ev (fun k => impl_rowOn.f k r l d) (behindL r l (untilW d)) := by
  unfold impl_rowOn.f
  refine walked_t r l (untilF d) (untilW d) h.n h.l8 h.good (fun i => by have := h.seven i; omega) (fun x hx => ⟨?_, ?_, ?_⟩)
  · exact impl_until_t (h.good x hx) d (by omega) (by omega)
  · have := untilW_bd (h.good x hx) d h0; omega
  · have := untilW_bd (h.good x hx) d h0; omega
theorem behindL_len (r : List Int) (l : List W) (c : W → Int) : (behindL r l c).length = r.length := rowF_len _ _
theorem rowSelf (r : List Int) : r = rowF r.length fun i => r.getD i 0 := (rowF_self r).symm
end LW
end Go.Proofs.Ythkifkfnlmjafaa.G
