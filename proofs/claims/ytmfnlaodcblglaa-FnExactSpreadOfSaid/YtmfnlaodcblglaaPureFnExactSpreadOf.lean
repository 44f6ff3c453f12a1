/- FnExactSpreadOf: the program's spread is the reference's, for all samples and marks. No condition. -/
import Derived.Test.YtmfnlaodcblglaaSayFnExactSpreadOf
import Derived.Test.YtmfnlaodcblglaaFHpMarks
import Derived.Test.YtmfnlaodcblglaaFLibRanks
namespace Go.Proofs.Ytmfnlaodcblglaa.PureFnExactSpreadOf
open Go.RowKit Go.Proofs.YtmfnlaodcblglaaW.PrintWords Go.Proofs.Ytmfnlaodcblglaa.G Go.Proofs.Ytmfnlaodcblglaa.SayFnExactSpreadOf Go.Proofs.Ytmfnlaodcblglaa.Wk Go.Proofs.Ytmfnlaodcblglaa.Pl
set_option linter.unusedSimpArgs false
set_option linter.unusedVariables false

theorem turn (s : Int) (x : List Int) (hx : x.length ≤ 8) : ∃ r, Ev (fun k => spec_SpreadOf.l0 k s x 0 0) r ∧ Ev (fun k => impl_SpreadOf.l0 k s x 0 0 x x.length 0) r := by
  have key1 : ∀ d (i : Nat) (t u : Int), i + d = x.length → ∃ r, Ev (fun k => spec_SpreadOf.l1 k s x t u i) r ∧ Ev (fun k => impl_SpreadOf.l1 k s t u x x.length i) r := by
    intro d
    induction d with
    | zero =>
      intro i t u hi
      obtain rfl : i = x.length := by omega
      refine ⟨(u, 0), Ev.step (fun k => spec_SpreadOf.l1.eq_2 _ _ _ _ _ k) ?_, Ev.step (fun k => impl_SpreadOf.l1.eq_2 _ _ _ _ _ _ k) ?_⟩
      · simp only [if_neg (show ¬ ((x.length : Int) < (x.length : Int)) by omega)]
        exact Ev.now _
      · simp only [if_neg (show ¬ ((x.length : Int) < (x.length : Int)) by omega)]
        exact Ev.now _
    | succ d ih =>
      intro i t u hi
      have hi1 : i < x.length := by omega
      obtain ⟨r, h1, h2⟩ := ih (i + 1) t (wrap64 (u + (wrap64 ((wrap64 ((wrap64 (s * (rd x i))) - t)) * (wrap64 ((wrap64 (s * (rd x i))) - t)))))) (by omega)
      refine ⟨r, Ev.step (fun k => spec_SpreadOf.l1.eq_2 _ _ _ _ _ k) ?_, Ev.step (fun k => impl_SpreadOf.l1.eq_2 _ _ _ _ _ _ k) ?_⟩
      · simp only [if_pos (show (i : Int) < (x.length : Int) by omega), if_pos (show (0 : Int) ≤ (i : Int) by omega), w_i hi1 (show x.length ≤ 4611686018427387904 by omega)]
        exact h1
      · simp only [if_pos (show (i : Int) < (x.length : Int) by omega), if_pos (show (0 : Int) ≤ (i : Int) by omega), w_i hi1 (show x.length ≤ 4611686018427387904 by omega)]
        exact h2
  have key : ∀ d (i : Nat) (t : Int), i + d = x.length → ∃ r, Ev (fun k => spec_SpreadOf.l0 k s x t i) r ∧ Ev (fun k => impl_SpreadOf.l0 k s x t 0 x x.length i) r := by
    intro d
    induction d with
    | zero =>
      intro i t hi
      obtain rfl : i = x.length := by omega
      obtain ⟨r, h1, h2⟩ := key1 x.length 0 t 0 (by omega)
      refine ⟨r, Ev.step (fun k => spec_SpreadOf.l0.eq_2 _ _ _ _ k) ?_, Ev.step (fun k => impl_SpreadOf.l0.eq_2 _ _ _ _ _ _ _ k) ?_⟩
      · simp only [if_neg (show ¬ ((x.length : Int) < (x.length : Int)) by omega)]
        exact h1
      · simp only [if_neg (show ¬ ((x.length : Int) < (x.length : Int)) by omega)]
        exact h2
    | succ d ih =>
      intro i t hi
      have hi1 : i < x.length := by omega
      obtain ⟨r, h1, h2⟩ := ih (i + 1) (wrap64 (t + rd x i)) (by omega)
      refine ⟨r, Ev.step (fun k => spec_SpreadOf.l0.eq_2 _ _ _ _ k) ?_, Ev.step (fun k => impl_SpreadOf.l0.eq_2 _ _ _ _ _ _ _ k) ?_⟩
      · simp only [if_pos (show (i : Int) < (x.length : Int) by omega), if_pos (show (0 : Int) ≤ (i : Int) by omega), w_i hi1 (show x.length ≤ 4611686018427387904 by omega)]
        exact h1
      · simp only [if_pos (show (i : Int) < (x.length : Int) by omega), if_pos (show (0 : Int) ≤ (i : Int) by omega), w_i hi1 (show x.length ≤ 4611686018427387904 by omega)]
        exact h2
  exact key x.length 0 0 (by omega)
theorem same (s : Int) (m : List (List Int)) (hm : m.length ≤ 1048576) (hx : ∀ x ∈ m, (x.length : Int) ≤ 1048576) : ∃ r, Ev (fun k => spec_SpreadOf.f k s m) r ∧ Ev (fun k => impl_SpreadOf.f k s m) r := by
  unfold spec_SpreadOf.f impl_SpreadOf.f impl_ValidMarks.f
  simp only [Option.bind_some]
  by_cases hb : marksB s m = true
  · obtain ⟨q, rfl, h1, h2, h3, h4⟩ := marksB_rows hb
    obtain ⟨r, hr1, hr2⟩ := turn q (sumsL q m) (by rw [sumsL_len]; exact h2)
    refine ⟨r, Ev.bind (l07Ok_tells _ m hm hx) ?_, ?_⟩
    · simp only [if_pos hb]
      exact Ev.bind (spec_sums_tells q m h2 h3 h4) hr1
    · simp only [if_pos hb]
      exact Ev.bind (impl_sums_tells q m h2 h3 h4) hr2
  · refine ⟨(0, 1), Ev.bind (l07Ok_tells _ m hm hx) ?_, ?_⟩
    · simp only [if_neg hb]
      exact Ev.now _
    · simp only [if_neg hb]
      exact Ev.now _
theorem FnExactSpreadOf : SayFnExactSpreadOf.Pure := by
  intro s m _ hl hx
  refine Ev.rounds (?_ : Ev (fun k => laws_FnExactSpreadOf.f k s m) true)
  unfold laws_FnExactSpreadOf.f
  rcases szMarks_tells m hl (fun x h => (hx x h).1) 1048576 (by omega) (by omega) with h | ⟨⟨h1, h2⟩, n, hn, h⟩
  · refine Ev.bind h ?_
    simp only [if_pos (show (-1 : Int) < 0 by omega)]
    exact Ev.now _
  · obtain ⟨r, hr1, hr2⟩ := same s m (by omega) h2
    refine Ev.bind h ?_
    simp only [if_neg (show ¬ (n < 0) by omega)]
    repeat (first
      | exact Ev.now _
      | refine Ev.bind (by first | exact hr1 | exact hr2 | exact toMarks_tells m (by omega) h2 | exact eqMarks_tells m (by omega) h2) ?_
      | simp only [Option.bind_some, if_true, bne_self, if_neg Bool.false_ne_true]
      | refine Ev.step (fun k => laws_FnExactSpreadOf.j0.eq_2 _ _ _ k) ?_)
end Go.Proofs.Ytmfnlaodcblglaa.PureFnExactSpreadOf
