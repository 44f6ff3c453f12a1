/- FnExactWinnerOf: the program's winner is the reference's, for all samples and marks. No condition. -/
import Derived.Test.YtmfnlaodcblglaaSayFnExactWinnerOf
import Derived.Test.YtmfnlaodcblglaaFHpMarks
import Derived.Test.YtmfnlaodcblglaaFLibPairs
namespace Go.Proofs.Ytmfnlaodcblglaa.PureFnExactWinnerOf
open Go.RowKit Go.Proofs.YtmfnlaodcblglaaW.PrintWords Go.Proofs.Ytmfnlaodcblglaa.G Go.Proofs.Ytmfnlaodcblglaa.SayFnExactWinnerOf Go.Proofs.Ytmfnlaodcblglaa.Wk Go.Proofs.Ytmfnlaodcblglaa.Pl
set_option linter.unusedSimpArgs false
set_option linter.unusedVariables false

theorem seek (s : Nat) (hs : s ≤ 8) (t : List (List Int)) (ht : Sq s t) : ∃ r, Ev (fun k => spec_WinnerOf.l0 k s t 0) r ∧ Ev (fun k => impl_WinnerOf.l0 k s t s 0) r := by
  have key : ∀ d (i : Nat), i + d = s → ∃ r, Ev (fun k => spec_WinnerOf.l0 k s t i) r ∧ Ev (fun k => impl_WinnerOf.l0 k s t s i) r := by
    intro d
    induction d with
    | zero =>
      intro i hi
      obtain rfl : i = s := by omega
      refine ⟨(0, 6), Ev.step (fun k => spec_WinnerOf.l0.eq_2 _ _ _ k) ?_, Ev.step (fun k => impl_WinnerOf.l0.eq_2 _ _ _ _ k) ?_⟩
      · simp only [if_neg (show ¬ ((i : Int) < (i : Int)) by omega)]
        exact Ev.now _
      · simp only [if_neg (show ¬ ((i : Int) < (i : Int)) by omega)]
        exact Ev.now _
    | succ d ih =>
      intro i hi
      have hi1 : i < s := by omega
      have key1 : ∀ e (j : Nat) (b : Bool), j + e = s → ∃ r, Ev (fun k => spec_WinnerOf.l1 k s t i b j) r ∧ Ev (fun k => impl_WinnerOf.l1 k s t i b s i s j) r := by
        intro e
        induction e with
        | zero =>
          intro j b hj
          obtain rfl : j = s := by omega
          obtain ⟨r, h1, h2⟩ := ih (i + 1) (by omega)
          refine ⟨if b = true then ((i : Int), 0) else r, Ev.step (fun k => spec_WinnerOf.l1.eq_2 _ _ _ _ _ k) ?_, Ev.step (fun k => impl_WinnerOf.l1.eq_2 _ _ _ _ _ _ _ _ k) ?_⟩
          · simp only [if_neg (show ¬ ((j : Int) < (j : Int)) by omega), w_i hi1 (show j ≤ 4611686018427387904 by omega)]
            by_cases hb : b = true
            · simp only [if_pos hb]
              exact Ev.now _
            · simp only [if_neg hb]
              exact h1
          · simp only [if_neg (show ¬ ((j : Int) < (j : Int)) by omega), w_i hi1 (show j ≤ 4611686018427387904 by omega)]
            by_cases hb : b = true
            · simp only [if_pos hb]
              exact Ev.now _
            · simp only [if_neg hb]
              exact h2
        | succ e ih2 =>
          intro j b hj
          have hj1 : j < s := by omega
          by_cases hb : b = true
          · by_cases he : (i : Int) = (j : Int)
            · obtain ⟨r, h1, h2⟩ := ih2 (j + 1) true (by omega)
              refine ⟨r, Ev.step (fun k => spec_WinnerOf.l1.eq_2 _ _ _ _ _ k) ?_, Ev.step (fun k => impl_WinnerOf.l1.eq_2 _ _ _ _ _ _ _ _ k) ?_⟩
              · simp only [if_pos (show (j : Int) < (s : Int) by omega), if_pos hb, if_pos he, w_i hj1 (show s ≤ 4611686018427387904 by omega)]
                exact h1
              · simp only [if_pos (show (j : Int) < (s : Int) by omega), if_pos hb, if_pos he, w_i hj1 (show s ≤ 4611686018427387904 by omega)]
                exact h2
            · obtain ⟨r, h1, h2⟩ := ih2 (j + 1) (decide ((t.getD i []).getD j 0 > (t.getD j []).getD i 0)) (by omega)
              refine ⟨r, Ev.step (fun k => spec_WinnerOf.l1.eq_2 _ _ _ _ _ k) ?_, Ev.step (fun k => impl_WinnerOf.l1.eq_2 _ _ _ _ _ _ _ _ k) ?_⟩
              · simp only [if_pos (show (j : Int) < (s : Int) by omega), if_pos hb, if_neg he, rdL_nat, rd_nat, if_pos (show (0 : Int) ≤ (i : Int) by omega), if_pos (show (0 : Int) ≤ (j : Int) by omega), if_pos (show (i : Int) < (t.length : Int) by rw [ht.1]; omega), if_pos (show (j : Int) < (t.length : Int) by rw [ht.1]; omega), if_pos (show (j : Int) < ((t.getD i []).length : Int) by rw [ht.2 i hi1]; omega), if_pos (show (i : Int) < ((t.getD j []).length : Int) by rw [ht.2 j hj1]; omega), w_i hj1 (show s ≤ 4611686018427387904 by omega)]
                exact h1
              · simp only [if_pos (show (j : Int) < (s : Int) by omega), if_pos hb, if_neg he, rdL_nat, rd_nat, if_pos (show (0 : Int) ≤ (i : Int) by omega), if_pos (show (0 : Int) ≤ (j : Int) by omega), if_pos (show (i : Int) < (t.length : Int) by rw [ht.1]; omega), if_pos (show (j : Int) < (t.length : Int) by rw [ht.1]; omega), if_pos (show (j : Int) < ((t.getD i []).length : Int) by rw [ht.2 i hi1]; omega), if_pos (show (i : Int) < ((t.getD j []).length : Int) by rw [ht.2 j hj1]; omega), w_i hj1 (show s ≤ 4611686018427387904 by omega)]
                exact h2
          · obtain ⟨r, h1, h2⟩ := ih2 (j + 1) false (by omega)
            refine ⟨r, Ev.step (fun k => spec_WinnerOf.l1.eq_2 _ _ _ _ _ k) ?_, Ev.step (fun k => impl_WinnerOf.l1.eq_2 _ _ _ _ _ _ _ _ k) ?_⟩
            · simp only [if_pos (show (j : Int) < (s : Int) by omega), if_neg hb, w_i hj1 (show s ≤ 4611686018427387904 by omega)]
              exact h1
            · simp only [if_pos (show (j : Int) < (s : Int) by omega), if_neg hb, w_i hj1 (show s ≤ 4611686018427387904 by omega)]
              exact h2
      obtain ⟨r, h1, h2⟩ := key1 s 0 true (by omega)
      refine ⟨r, Ev.step (fun k => spec_WinnerOf.l0.eq_2 _ _ _ k) ?_, Ev.step (fun k => impl_WinnerOf.l0.eq_2 _ _ _ _ k) ?_⟩
      · simp only [if_pos (show (i : Int) < (s : Int) by omega)]
        exact h1
      · simp only [if_pos (show (i : Int) < (s : Int) by omega)]
        exact h2
  exact key s 0 (by omega)
theorem same (s : Int) (m : List (List Int)) (hm : m.length ≤ 1048576) (hx : ∀ x ∈ m, (x.length : Int) ≤ 1048576) : ∃ r, Ev (fun k => spec_WinnerOf.f k s m) r ∧ Ev (fun k => impl_WinnerOf.f k s m) r := by
  unfold spec_WinnerOf.f impl_WinnerOf.f impl_ValidMarks.f
  simp only [Option.bind_some]
  by_cases hb : marksB s m = true
  · obtain ⟨q, rfl, h1, h2, h3, h4⟩ := marksB_says hb
    obtain ⟨r, hr1, hr2⟩ := seek q h2 (pairsL q m) (pairsL_sq q m)
    refine ⟨r, Ev.bind (l07Ok_tells _ m hm hx) ?_, ?_⟩
    · simp only [if_pos hb]
      exact Ev.bind (spec_pairs_tells q m h2 h3 h4) hr1
    · simp only [if_pos hb]
      exact Ev.bind (impl_pairs_tells q m h2 h3 h4) hr2
  · refine ⟨(0, 1), Ev.bind (l07Ok_tells _ m hm hx) ?_, ?_⟩
    · simp only [if_neg hb]
      exact Ev.now _
    · simp only [if_neg hb]
      exact Ev.now _
theorem FnExactWinnerOf : SayFnExactWinnerOf.Pure := by
  intro s m _ hl hx
  refine Ev.rounds (?_ : Ev (fun k => laws_FnExactWinnerOf.f k s m) true)
  unfold laws_FnExactWinnerOf.f
  rcases szMarks_tells m hl (fun x h => (hx x h).1) 1048576 (by omega) (by omega) with h | ⟨⟨h1, h2⟩, n, hn, h⟩
  · refine Ev.bind h ?_
    simp only [if_pos (show (-1 : Int) < 0 by omega)]
    exact Ev.now _
  · obtain ⟨r, hr1, hr2⟩ := same s m (by omega) h2
    refine Ev.bind h ?_
    simp only [if_neg (show ¬ (n < 0) by omega)]
    repeat (first
      | exact Ev.now _
      | refine Ev.bind (by first | exact hr1 | exact hr2 | exact toMarks_tells m (by omega) h2 | exact eqMarks_tells m (by omega) h2) ?_
      | simp only [Option.bind_some, if_true, bne_self, if_neg Bool.false_ne_true]
      | refine Ev.step (fun k => laws_FnExactWinnerOf.j0.eq_2 _ _ _ k) ?_)
end Go.Proofs.Ytmfnlaodcblglaa.PureFnExactWinnerOf
