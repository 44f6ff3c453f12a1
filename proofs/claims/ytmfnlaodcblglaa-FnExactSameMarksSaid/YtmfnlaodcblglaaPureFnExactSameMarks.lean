/- FnExactSameMarks: the program's SameMarks answers as the reference's does, for all marks. No condition. -/
import Derived.Test.YtmfnlaodcblglaaSayFnExactSameMarks
import Derived.Test.YtmfnlaodcblglaaFHpMarks
import Derived.Test.YtmfnlaodcblglaaFSameM
namespace Go.Proofs.Ytmfnlaodcblglaa.PureFnExactSameMarks
open Go.RowKit Go.Proofs.YtmfnlaodcblglaaW.PrintWords Go.Proofs.Ytmfnlaodcblglaa.G Go.Proofs.Ytmfnlaodcblglaa.SayFnExactSameMarks Go.Proofs.Ytmfnlaodcblglaa.Wk Go.Proofs.Ytmfnlaodcblglaa.Pl
set_option linter.unusedSimpArgs false
set_option linter.unusedVariables false

theorem yes_no (b : Bool) : (if b = true then true else false) = b := by cases b <;> rfl
theorem same_tells (a b : List Int) (ha : a.length ≤ 1048576) : Ev (fun k => spec_l00Same.f k a b) (decide (a = b)) := by
  unfold spec_l00Same.f
  by_cases hl : (a.length : Int) = (b.length : Int)
  · simp only [if_pos hl]
    have hr : ∀ (l : List Int) (j : Nat), rd l (j : Int) = l.getD j 0 := fun _ _ => rfl
    have h := ev_all (F := fun k i => spec_l00Same.l0 k a b i) a.length (fun j => decide (a.getD j 0 = b.getD j 0)) true false (fun i hi hp r h2 => by
      refine Ev.step (fun k => spec_l00Same.l0.eq_2 _ _ _ k) ?_
      simp only [hr, if_pos (show (i : Int) < (a.length : Int) by omega), if_pos (show (0 : Int) ≤ (i : Int) by omega), if_pos (show (i : Int) < (b.length : Int) by omega), if_pos (of_decide_eq_true hp), w_i hi (show a.length ≤ 4611686018427387904 by omega)]
      exact h2) (fun i hi hp => by
      refine Ev.step (fun k => spec_l00Same.l0.eq_2 _ _ _ k) ?_
      simp only [hr, if_pos (show (i : Int) < (a.length : Int) by omega), if_pos (show (0 : Int) ≤ (i : Int) by omega), if_pos (show (i : Int) < (b.length : Int) by omega), if_neg (of_decide_eq_false hp)]
      exact Ev.now _) (by
      refine Ev.step (fun k => spec_l00Same.l0.eq_2 _ _ _ k) ?_
      simp only [if_neg (show ¬ ((a.length : Int) < (a.length : Int)) by omega)]
      exact Ev.now _)
    rw [same_all a b 0 (by omega), yes_no] at h
    exact h
  · simp only [if_neg hl]
    rw [decide_eq_false (fun e => hl (by rw [e]))]
    exact Ev.now _
theorem spec_tells (a b : List (List Int)) (ha : a.length ≤ 1048576) (hx : ∀ x ∈ a, (x.length : Int) ≤ 1048576) : Ev (fun k => spec_SameMarks.f k a b) (decide (a = b)) := by
  unfold spec_SameMarks.f spec_l07Same.f
  refine Ev.bind (a := decide (a = b)) ?_ (Ev.now _)
  by_cases hl : (a.length : Int) = (b.length : Int)
  · simp only [if_pos hl]
    have hr : ∀ (l : List (List Int)) (j : Nat), rd_L1 l (j : Int) = l.getD j [] := fun _ _ => rfl
    have hs : ∀ i : Nat, i < a.length → Ev (fun k => spec_l00Same.f k (a.getD i []) (b.getD i [])) (decide (a.getD i [] = b.getD i [])) := fun i hi => same_tells _ _ (by
      have : ((a.getD i []).length : Int) ≤ 1048576 := by rw [getD_lt hi]; exact hx _ (List.getElem_mem hi)
      omega)
    have h := ev_all (F := fun k i => spec_l07Same.l0 k a b i) a.length (fun j => decide (a.getD j [] = b.getD j [])) true false (fun i hi hp r h2 => by
      refine Ev.step (fun k => spec_l07Same.l0.eq_2 _ _ _ k) ?_
      simp only [hr, if_pos (show (i : Int) < (a.length : Int) by omega), if_pos (show (0 : Int) ≤ (i : Int) by omega), if_pos (show (i : Int) < (b.length : Int) by omega), w_i hi (show a.length ≤ 4611686018427387904 by omega)]
      refine Ev.bind (hs i hi) ?_
      simp only [hp, if_true]
      exact h2) (fun i hi hp => by
      refine Ev.step (fun k => spec_l07Same.l0.eq_2 _ _ _ k) ?_
      simp only [hr, if_pos (show (i : Int) < (a.length : Int) by omega), if_pos (show (0 : Int) ≤ (i : Int) by omega), if_pos (show (i : Int) < (b.length : Int) by omega)]
      refine Ev.bind (hs i hi) ?_
      simp only [hp, if_neg Bool.false_ne_true]
      exact Ev.now _) (by
      refine Ev.step (fun k => spec_l07Same.l0.eq_2 _ _ _ k) ?_
      simp only [if_neg (show ¬ ((a.length : Int) < (a.length : Int)) by omega)]
      exact Ev.now _)
    rw [same_all a b [] (by omega), yes_no] at h
    exact h
  · simp only [if_neg hl]
    rw [decide_eq_false (fun e => hl (by rw [e]))]
    exact Ev.now _
theorem FnExactSameMarks : SayFnExactSameMarks.Pure := by
  intro a b hl hx hl2 hx2
  refine Ev.rounds (?_ : Ev (fun k => laws_FnExactSameMarks.f k a b) true)
  unfold laws_FnExactSameMarks.f
  rcases szMarks_tells a hl (fun x h => (hx x h).1) 1048576 (by omega) (by omega) with h | ⟨⟨h1, h2⟩, n, hn, h⟩
  · refine Ev.bind h ?_
    simp only [if_pos (show (-1 : Int) < 0 by omega)]
    exact Ev.now _
  refine Ev.bind h ?_
  simp only [if_neg (show ¬ (n < 0) by omega)]
  rcases szMarks_tells b hl2 (fun x h => (hx2 x h).1) n (by omega) (by omega) with h | ⟨⟨h3, h4⟩, m, hm, h⟩
  · refine Ev.bind h ?_
    simp only [if_pos (show (-1 : Int) < 0 by omega)]
    exact Ev.now _
  refine Ev.bind h ?_
  simp only [if_neg (show ¬ (m < 0) by omega)]
  have h5 : ∀ x ∈ b, (x.length : Int) ≤ 1048576 := fun x hx => by have := h4 x hx; omega
  repeat (first
    | exact Ev.now _
    | refine Ev.bind (by first | exact spec_tells a b (by omega) h2 | exact toMarks_tells a (by omega) h2 | exact toMarks_tells b (by omega) h5 | exact eqMarks_tells a (by omega) h2 | exact eqMarks_tells b (by omega) h5) ?_
    | simp only [impl_SameMarks.f, Option.bind_some, if_true, bne_self, if_neg Bool.false_ne_true])
end Go.Proofs.Ytmfnlaodcblglaa.PureFnExactSameMarks
