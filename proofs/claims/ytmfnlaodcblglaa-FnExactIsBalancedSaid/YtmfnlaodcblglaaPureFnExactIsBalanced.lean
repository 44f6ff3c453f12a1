/- FnExactIsBalanced: the program's IsBalanced answers as the reference's does. No condition. -/
import Derived.Test.YtmfnlaodcblglaaSayFnExactIsBalanced
import Derived.Test.YtmfnlaodcblglaaFHpInt64SS
import Derived.Test.YtmfnlaodcblglaaFLibFollows
namespace Go.Proofs.Ytmfnlaodcblglaa.PureFnExactIsBalanced
open Go.RowKit Go.Proofs.YtmfnlaodcblglaaW.PrintWords Go.Proofs.Ytmfnlaodcblglaa.G Go.Proofs.Ytmfnlaodcblglaa.SayFnExactIsBalanced Go.Proofs.Ytmfnlaodcblglaa.Wk Go.Proofs.Ytmfnlaodcblglaa.Pl
set_option linter.unusedSimpArgs false
set_option linter.unusedVariables false

theorem loops (q : Nat) (hq2 : q ≤ 8) (t : List (List Int)) (ht : Sq q t) : ∃ r, Ev (fun k => spec_IsBalanced.l0 k q t 0) r ∧ Ev (fun k => impl_IsBalanced.l0 k t t q 0) r := by
  have key : ∀ d (i : Nat), i + d = q → ∃ r, Ev (fun k => spec_IsBalanced.l0 k q t i) r ∧ Ev (fun k => impl_IsBalanced.l0 k t t q i) r := by
    intro d
    induction d with
    | zero =>
      intro i hi
      obtain rfl : i = q := by omega
      refine ⟨(true, 0), Ev.step (fun k => spec_IsBalanced.l0.eq_2 _ _ _ k) ?_, Ev.step (fun k => impl_IsBalanced.l0.eq_2 _ _ _ _ k) ?_⟩
      · simp only [if_neg (show ¬ ((i : Int) < (i : Int)) by omega)]
        exact Ev.now _
      · simp only [if_neg (show ¬ ((i : Int) < (i : Int)) by omega)]
        exact Ev.now _
    | succ d ih =>
      intro i hi
      have hi1 : i < q := by omega
      have hl := ht.2 i hi1
      have key1 : ∀ e (j : Nat), j + e = q → ∃ r, Ev (fun k => spec_IsBalanced.l1 k q t i j) r ∧ Ev (fun k => impl_IsBalanced.l1 k t i t q i (t.getD i []) q j) r := by
        intro e
        induction e with
        | zero =>
          intro j hj
          obtain rfl : j = q := by omega
          obtain ⟨r, h1, h2⟩ := ih (i + 1) (by omega)
          refine ⟨r, Ev.step (fun k => spec_IsBalanced.l1.eq_2 _ _ _ _ k) ?_, Ev.step (fun k => impl_IsBalanced.l1.eq_2 _ _ _ _ _ _ _ _ k) ?_⟩
          · simp only [if_neg (show ¬ ((j : Int) < (j : Int)) by omega), w_i hi1 (show j ≤ 4611686018427387904 by omega)]
            exact h1
          · simp only [if_neg (show ¬ ((j : Int) < (j : Int)) by omega), w_i hi1 (show j ≤ 4611686018427387904 by omega)]
            exact h2
        | succ e ih2 =>
          intro j hj
          have hj1 : j < q := by omega
          obtain ⟨r, h1, h2⟩ := ih2 (j + 1) (by omega)
          by_cases he : (i : Int) = (j : Int)
          · refine ⟨r, Ev.step (fun k => spec_IsBalanced.l1.eq_2 _ _ _ _ k) ?_, Ev.step (fun k => impl_IsBalanced.l1.eq_2 _ _ _ _ _ _ _ _ k) ?_⟩
            · simp only [if_pos (show (j : Int) < (q : Int) by omega), if_pos he, w_i hj1 (show q ≤ 4611686018427387904 by omega)]
              exact h1
            · simp only [hl, if_pos (show (j : Int) < (q : Int) by omega), if_pos (show (0 : Int) ≤ (j : Int) by omega), if_pos he, w_i hj1 (show q ≤ 4611686018427387904 by omega)]
              exact h2
          · have h0 : (0 : Int) < (t.length : Int) := by rw [ht.1]; omega
            have h01 : (1 : Int) < ((rd_L1 t 0).length : Int) := by
              show (1 : Int) < ((t.getD 0 []).length : Int)
              rw [ht.2 0 (by omega)]
              omega
            refine ⟨if (t.getD i []).getD j 0 = rd (rd_L1 t 0) 1 then r else (false, 0), Ev.step (fun k => spec_IsBalanced.l1.eq_2 _ _ _ _ k) ?_, Ev.step (fun k => impl_IsBalanced.l1.eq_2 _ _ _ _ _ _ _ _ k) ?_⟩
            · simp only [if_pos (show (j : Int) < (q : Int) by omega), if_neg he, rdL_nat, rd_nat, if_pos (show (0 : Int) ≤ (i : Int) by omega), if_pos (show (0 : Int) ≤ (j : Int) by omega), if_pos (show (i : Int) < (t.length : Int) by rw [ht.1]; omega), if_pos (show (j : Int) < ((t.getD i []).length : Int) by omega), if_pos h0, if_pos h01, w_i hj1 (show q ≤ 4611686018427387904 by omega)]
              by_cases hc : (t.getD i []).getD j 0 = rd (rd_L1 t 0) 1
              · simp only [if_pos hc]
                exact h1
              · simp only [if_neg hc]
                exact Ev.now _
            · simp only [if_pos (show (j : Int) < (q : Int) by omega), if_neg he, rd_nat, if_pos (show (0 : Int) ≤ (j : Int) by omega), if_pos (show (j : Int) < ((t.getD i []).length : Int) by omega), if_pos h0, if_pos h01, w_i hj1 (show q ≤ 4611686018427387904 by omega)]
              by_cases hc : (t.getD i []).getD j 0 = rd (rd_L1 t 0) 1
              · simp only [if_pos hc]
                exact h2
              · simp only [if_neg hc]
                exact Ev.now _
      obtain ⟨r, h1, h2⟩ := key1 q 0 (by omega)
      refine ⟨r, Ev.step (fun k => spec_IsBalanced.l0.eq_2 _ _ _ k) ?_, Ev.step (fun k => impl_IsBalanced.l0.eq_2 _ _ _ _ k) ?_⟩
      · simp only [if_pos (show (i : Int) < (q : Int) by omega)]
        exact h1
      · simp only [rdL_nat, hl, ht.1, if_pos (show (i : Int) < (q : Int) by omega), if_pos (show (0 : Int) ≤ (i : Int) by omega)]
        exact h2
  exact key q 0 (by omega)
theorem same (s : Int) (m : List (List Int)) (hm : m.length ≤ 1048576) (hx : ∀ x ∈ m, (x.length : Int) ≤ 1048576) : ∃ r, Ev (fun k => spec_IsBalanced.f k s m) r ∧ Ev (fun k => impl_IsBalanced.f k s m) r := by
  unfold spec_IsBalanced.f impl_IsBalanced.f
  have hs := spec_follows_tells s m hm hx
  have hi := impl_follows_tells s m hm hx
  by_cases hc : (followR s m).2 = 0
  · have hR : ∃ q : Nat, s = q ∧ q ≤ 8 ∧ Sq q (followR s m).1 := by
      unfold followR at hc ⊢
      by_cases h1 : inB s 1 8 = true
      · have h1' := h1
        unfold inB at h1'
        simp only [Bool.and_eq_true, decide_eq_true_eq] at h1'
        rw [if_pos h1] at hc ⊢
        by_cases h2 : m.all (okRow s) = true
        · rw [if_pos h2] at hc ⊢
          by_cases h3 : (m.length : Int) > 100
          · rw [if_pos h3] at hc; simp at hc
          · rw [if_neg h3]
            exact ⟨s.toNat, by omega, by omega, followL_sq _ _⟩
        · rw [if_neg h2] at hc; simp at hc
      · rw [if_neg h1] at hc; simp at hc
    obtain ⟨q, rfl, hq, hsq⟩ := hR
    obtain ⟨r, h1, h2⟩ := loops q hq _ hsq
    refine ⟨r, Ev.bind hs ?_, Ev.bind hi ?_⟩
    · simp only [if_pos hc]
      exact h1
    · simp only [if_pos hc, hsq.1]
      exact h2
  · refine ⟨(false, (followR s m).2), Ev.bind hs ?_, Ev.bind hi ?_⟩
    · simp only [if_neg hc]
      exact Ev.now _
    · simp only [if_neg hc]
      exact Ev.now _
theorem FnExactIsBalanced : SayFnExactIsBalanced.Pure := by
  intro s m _ hl hx
  refine Ev.rounds (?_ : Ev (fun k => laws_FnExactIsBalanced.f k s m) true)
  unfold laws_FnExactIsBalanced.f
  rcases szInt64SS_tells m hl (fun x h => (hx x h).1) 1048576 (by omega) (by omega) with h | ⟨⟨h1, h2⟩, n, hn, h⟩
  · refine Ev.bind h ?_
    simp only [if_pos (show (-1 : Int) < 0 by omega)]
    exact Ev.now _
  · obtain ⟨r, hr1, hr2⟩ := same s m (by omega) h2
    refine Ev.bind h ?_
    simp only [if_neg (show ¬ (n < 0) by omega)]
    repeat (first
      | exact Ev.now _
      | refine Ev.bind (by first | exact hr1 | exact hr2 | exact toInt64SS_tells m (by omega) h2 | exact eqInt64SS_tells m (by omega) h2) ?_
      | simp only [Option.bind_some, if_true, bne_self, if_neg Bool.false_ne_true]
      | refine Ev.step (fun k => laws_FnExactIsBalanced.j0.eq_2 _ _ _ k) ?_)
end Go.Proofs.Ytmfnlaodcblglaa.PureFnExactIsBalanced
