/- Plain laws on ranks and their sums: the reference's and the program's are the same. -/
import Derived.Test.YtepokbejmnkogaaPl
import Derived.Test.YtepokbejmnkogaaFLibMarks
import Derived.Test.YtepokbejmnkogaaG2
import Derived.Test.YtepokbejmnkogaaG2
namespace Go.Proofs.Ytepokbejmnkogaa.G
open Go.RowKit Go.Proofs.YtepokbejmnkogaaW.PrintWords Go.Proofs.YtepokbejmnkogaaW.PrintLast Go.Proofs.YtepokbejmnkogaaW.PrintMore
attribute [local go_sem] max2_int min2_int max_two min_two max_three min_three max_four min_four   -- for this text's walks alone
set_option linter.unusedVariables false
set_option linter.unusedSimpArgs false

open Go.Proofs.Ytepokbejmnkogaa.Wk Go.Proofs.Ytepokbejmnkogaa.Pl

theorem rdr_nat (l : List Int) (j : Nat) : rd l (j : Int) = l.getD j 0 := rfl
theorem rdrL_nat (l : List (List Int)) (j : Nat) : rd_L2 l (j : Int) = l.getD j [] := rfl
/-- What good marks are. -/
theorem marksB_rows {s : Int} {m : List (List Int)} (h : marksB s m = true) : ∃ q : Nat, s = q ∧ 1 ≤ q ∧ q ≤ 8 ∧ m.length ≤ 12 ∧ ∀ i : Nat, i < m.length → (m.getD i []).length = q := by
  unfold marksB inB at h
  simp only [Bool.and_eq_true, decide_eq_true_eq, List.all_eq_true] at h
  refine ⟨s.toNat, by omega, by omega, by omega, h.2.1, fun i hi => ?_⟩
  have := h.2.2 _ (List.getElem_mem hi)
  unfold rowB at this
  rw [Bool.and_eq_true, decide_eq_true_eq] at this
  rw [getD_lt hi]
  omega
def rstep (row : List Int) (a : Nat) (r : Int) (b : Nat) : Int := if row.getD b 0 > row.getD a 0 then wrap64 (r + 2) else if row.getD b 0 = row.getD a 0 then wrap64 (r + 1) else r
def rk (s : Nat) (row : List Int) (a : Nat) : Int := stF (rstep row a) 1 s
def rks (s : Nat) (row : List Int) (n : Nat) : List Int := (List.range n).map (rk s row)
def ranksL (s : Nat) (m : List (List Int)) (n : Nat) : List (List Int) := (List.range n).map fun i => rks s (m.getD i []) s
theorem rks_length (s : Nat) (row : List Int) (n : Nat) : (rks s row n).length = n := by simp [rks]
theorem rks_snoc (s : Nat) (row : List Int) (n : Nat) : rks s row n ++ [rk s row n] = rks s row (n + 1) := by simp [rks, List.range_succ]
theorem ranksL_length (s : Nat) (m : List (List Int)) (n : Nat) : (ranksL s m n).length = n := by simp [ranksL]
theorem ranksL_snoc (s : Nat) (m : List (List Int)) (n : Nat) : ranksL s m n ++ [rks s (m.getD n []) s] = ranksL s m (n + 1) := by simp [ranksL, List.range_succ]
theorem ranksL_get (s : Nat) (m : List (List Int)) (n i : Nat) (hi : i < n) : (ranksL s m n).getD i [] = rks s (m.getD i []) s := by rw [getD_lt (by rw [ranksL_length]; exact hi)]; simp [ranksL]
theorem spec_ranks_tells (s : Nat) (m : List (List Int)) (hs : s ≤ 8) (hm : m.length ≤ 12) (hrow : ∀ i : Nat, i < m.length → (m.getD i []).length = s) : Ev (fun k => spec_l07Ranks.f k s m) (ranksL s m m.length) := by
  unfold spec_l07Ranks.f
  exact ev_steps (F := fun k i (x : List (List Int)) => spec_l07Ranks.l0 k s m x i) 0 m.length (Nat.zero_le _) (fun i => ranksL s m i) (ranksL s m m.length) (fun i _ hi h => by
    refine Ev.step (fun k => spec_l07Ranks.l0.eq_2 s m _ i k) ?_
    simp only [if_pos (show (i : Int) < (m.length : Int) by omega)]
    exact ev_steps (F := fun k a (x : List Int) => spec_l07Ranks.l1 k s m (ranksL s m i) i x a) 0 s (Nat.zero_le _) (fun a => rks s (m.getD i []) a) _ (fun a _ ha h => by
      refine Ev.step (fun k => spec_l07Ranks.l1.eq_2 s m _ i _ a k) ?_
      simp only [if_pos (show (a : Int) < (s : Int) by omega)]
      exact ev_steps (F := fun k b (x : Int) => spec_l07Ranks.l2 k s m (ranksL s m i) i (rks s (m.getD i []) a) a x b) 0 s (Nat.zero_le _) (fun b => stF (rstep (m.getD i []) a) 1 b) _ (fun b _ hb h => by
        refine Ev.step (fun k => spec_l07Ranks.l2.eq_2 s m _ i _ a _ b k) ?_
        simp only [rdrL_nat, rdr_nat, if_pos (show (b : Int) < (s : Int) by omega), if_pos (show (0 : Int) ≤ (i : Int) by omega), if_pos (show (i : Int) < (m.length : Int) by omega), if_pos (show (0 : Int) ≤ (a : Int) by omega), if_pos (show (0 : Int) ≤ (b : Int) by omega), if_pos (show (a : Int) < ((m.getD i []).length : Int) by rw [hrow i hi]; omega), if_pos (show (b : Int) < ((m.getD i []).length : Int) by rw [hrow i hi]; omega), w_i hb (show s ≤ 4611686018427387904 by omega)]
        simp only [stF_succ] at h
        by_cases c : (m.getD i []).getD b 0 > (m.getD i []).getD a 0
        · simp only [if_pos c, if_neg (show ¬ ((m.getD i []).getD b 0 = (m.getD i []).getD a 0) by omega)]
          rw [rstep, if_pos c] at h
          exact h
        · by_cases c2 : (m.getD i []).getD b 0 = (m.getD i []).getD a 0
          · simp only [if_neg c, if_pos c2]
            rw [rstep, if_neg c, if_pos c2] at h
            exact h
          · simp only [if_neg c, if_neg c2]
            rw [rstep, if_neg c, if_neg c2] at h
            exact h) (by
        refine Ev.step (fun k => spec_l07Ranks.l2.eq_2 s m _ i _ a _ s k) ?_
        simp only [if_neg (show ¬ ((s : Int) < (s : Int)) by omega), w_i ha (show s ≤ 4611686018427387904 by omega), if_pos (show (rks s (m.getD i []) a).length < 17592186044416 by rw [rks_length]; omega)]
        rw [show stF (rstep (m.getD i []) a) 1 s = rk s (m.getD i []) a from rfl]
        simp only [rks_snoc]
        exact h)) (by
      refine Ev.step (fun k => spec_l07Ranks.l1.eq_2 s m _ i _ s k) ?_
      simp only [if_neg (show ¬ ((s : Int) < (s : Int)) by omega), w_i hi (show m.length ≤ 4611686018427387904 by omega), if_pos (show (ranksL s m i).length < 5864062014805 by rw [ranksL_length]; omega), ranksL_snoc]
      exact h)) (by
    refine Ev.step (fun k => spec_l07Ranks.l0.eq_2 s m _ m.length k) ?_
    simp only [if_neg (show ¬ ((m.length : Int) < (m.length : Int)) by omega)]
    exact Ev.now _)
theorem impl_ranks_tells (s : Nat) (row : List Int) (hs : s ≤ 8) (hrow : row.length = s) : Ev (fun k => impl_ranks.f k row) (rks s row s) := by
  unfold impl_ranks.f
  rw [hrow]
  exact ev_steps (F := fun k a (x : List Int) => impl_ranks.l0 k row x row s a) 0 s (Nat.zero_le _) (fun a => rks s row a) (rks s row s) (fun a _ ha h => by
    refine Ev.step (fun k => impl_ranks.l0.eq_2 _ _ _ _ _ k) ?_
    simp only [hrow, rdr_nat, if_pos (show (a : Int) < (s : Int) by omega), if_pos (show (0 : Int) ≤ (a : Int) by omega)]
    exact ev_steps (F := fun k b (x : Int) => impl_ranks.l1 k row (rks s row a) (row.getD a 0) x row s a row s b) 0 s (Nat.zero_le _) (fun b => stF (rstep row a) 1 b) _ (fun b _ hb h => by
      refine Ev.step (fun k => impl_ranks.l1.eq_2 _ _ _ _ _ _ _ _ _ _ k) ?_
      simp only [rdr_nat, if_pos (show (b : Int) < (s : Int) by omega), if_pos (show (0 : Int) ≤ (b : Int) by omega), if_pos (show (b : Int) < (row.length : Int) by omega), w_i hb (show s ≤ 4611686018427387904 by omega)]
      simp only [stF_succ] at h
      by_cases c : row.getD b 0 > row.getD a 0
      · simp only [if_pos c]
        rw [rstep, if_pos c] at h
        exact h
      · by_cases c2 : row.getD b 0 = row.getD a 0
        · simp only [if_neg c, if_pos c2]
          rw [rstep, if_neg c, if_pos c2] at h
          exact h
        · simp only [if_neg c, if_neg c2]
          rw [rstep, if_neg c, if_neg c2] at h
          exact h) (by
      refine Ev.step (fun k => impl_ranks.l1.eq_2 _ _ _ _ _ _ _ _ _ _ k) ?_
      simp only [if_neg (show ¬ ((s : Int) < (s : Int)) by omega), w_i ha (show s ≤ 4611686018427387904 by omega), if_pos (show (rks s row a).length < 17592186044416 by rw [rks_length]; omega)]
      rw [show stF (rstep row a) 1 s = rk s row a from rfl]
      simp only [rks_snoc]
      exact h)) (by
    refine Ev.step (fun k => impl_ranks.l0.eq_2 _ _ _ _ _ k) ?_
    simp only [if_neg (show ¬ ((s : Int) < (s : Int)) by omega)]
    exact Ev.now _)
def add2 (row : List Int) (x : List Int) (b : Nat) : List Int := x.set b (wrap64 (x.getD b 0 + row.getD b 0))
def add1 (s : Nat) (m : List (List Int)) (x : List Int) (i : Nat) : List Int := stF (add2 (rks s (m.getD i []) s)) x s
def sumsL (s : Nat) (m : List (List Int)) : List Int := stF (add1 s m) (List.replicate s 0) m.length
theorem add2_len {s : Nat} {x : List Int} (h : x.length = s) (row : List Int) (n : Nat) : (stF (add2 row) x n).length = s := stF_inv (fun (x : List Int) => x.length = s) h n (fun x b _ hx => by simpa [add2] using hx) n (Nat.le_refl _)
theorem add1_len {s : Nat} {x : List Int} (h : x.length = s) (m : List (List Int)) (n : Nat) : (stF (add1 s m) x n).length = s := stF_inv (fun (x : List Int) => x.length = s) h n (fun x b _ hx => add2_len hx _ s) n (Nat.le_refl _)
theorem sumsL_len (s : Nat) (m : List (List Int)) : (sumsL s m).length = s := add1_len (by simp) m _
theorem spec_sums_tells (s : Nat) (m : List (List Int)) (hs : s ≤ 8) (hm : m.length ≤ 12) (hrow : ∀ i : Nat, i < m.length → (m.getD i []).length = s) : Ev (fun k => spec_l07Sums.f k s m) (sumsL s m) := by
  unfold spec_l07Sums.f
  simp only [if_pos (show (0 : Int) ≤ (s : Int) by omega), Int.toNat_natCast, if_pos (show s ≤ 35184372088832 by omega)]
  refine Ev.bind (spec_ranks_tells s m hs hm hrow) ?_
  have hl := ranksL_length s m m.length
  exact ev_steps (F := fun k i (x : List Int) => spec_l07Sums.l0 k s x (ranksL s m m.length) i) 0 m.length (Nat.zero_le _) (fun i => stF (add1 s m) (List.replicate s 0) i) (sumsL s m) (fun i _ hi h => by
    have hx : (stF (add1 s m) (List.replicate s 0) i).length = s := add1_len (by simp) m i
    refine Ev.step (fun k => spec_l07Sums.l0.eq_2 _ _ _ _ k) ?_
    simp only [hl, if_pos (show (i : Int) < (m.length : Int) by omega)]
    exact ev_steps (F := fun k b (x : List Int) => spec_l07Sums.l1 k s x (ranksL s m m.length) i b) 0 s (Nat.zero_le _) (fun b => stF (add2 (rks s (m.getD i []) s)) (stF (add1 s m) (List.replicate s 0) i) b) _ (fun b _ hb h => by
      have hx2 := add2_len hx (rks s (m.getD i []) s) b
      refine Ev.step (fun k => spec_l07Sums.l1.eq_2 _ _ _ _ _ k) ?_
      simp only [hl, rdrL_nat, rdr_nat, ranksL_get s m m.length i hi, rks_length, if_pos (show (b : Int) < (s : Int) by omega), if_pos (show (0 : Int) ≤ (b : Int) by omega), if_pos (show (0 : Int) ≤ (i : Int) by omega), if_pos (show (i : Int) < (m.length : Int) by omega), if_pos (show (b : Int) < ((stF (add2 (rks s (m.getD i []) s)) (stF (add1 s m) (List.replicate s 0) i) b).length : Int) by rw [hx2]; omega), Int.toNat_natCast, w_i hb (show s ≤ 4611686018427387904 by omega)]
      simp only [stF_succ] at h
      exact h) (by
      refine Ev.step (fun k => spec_l07Sums.l1.eq_2 _ _ _ _ _ k) ?_
      simp only [if_neg (show ¬ ((s : Int) < (s : Int)) by omega), w_i hi (show m.length ≤ 4611686018427387904 by omega)]
      simp only [stF_succ] at h
      exact h)) (by
    refine Ev.step (fun k => spec_l07Sums.l0.eq_2 _ _ _ _ k) ?_
    simp only [hl, if_neg (show ¬ ((m.length : Int) < (m.length : Int)) by omega)]
    exact Ev.now _)
theorem impl_sums_tells (s : Nat) (m : List (List Int)) (hs : s ≤ 8) (hm : m.length ≤ 12) (hrow : ∀ i : Nat, i < m.length → (m.getD i []).length = s) : Ev (fun k => impl_rankSums.f k s m) (sumsL s m) := by
  unfold impl_rankSums.f
  simp only [if_pos (show (0 : Int) ≤ (s : Int) by omega), Int.toNat_natCast, if_pos (show s ≤ 35184372088832 by omega)]
  exact ev_steps (F := fun k i (x : List Int) => impl_rankSums.l0 k x m m.length i) 0 m.length (Nat.zero_le _) (fun i => stF (add1 s m) (List.replicate s 0) i) (sumsL s m) (fun i _ hi h => by
    have hx : (stF (add1 s m) (List.replicate s 0) i).length = s := add1_len (by simp) m i
    refine Ev.step (fun k => impl_rankSums.l0.eq_2 _ _ _ _ k) ?_
    simp only [rdrL_nat, if_pos (show (i : Int) < (m.length : Int) by omega), if_pos (show (0 : Int) ≤ (i : Int) by omega)]
    refine Ev.bind (impl_ranks_tells s _ hs (hrow i hi)) ?_
    simp only [rks_length]
    exact ev_steps (F := fun k b (x : List Int) => impl_rankSums.l1 k x m m.length i (rks s (m.getD i []) s) s b) 0 s (Nat.zero_le _) (fun b => stF (add2 (rks s (m.getD i []) s)) (stF (add1 s m) (List.replicate s 0) i) b) _ (fun b _ hb h => by
      have hx2 := add2_len hx (rks s (m.getD i []) s) b
      refine Ev.step (fun k => impl_rankSums.l1.eq_2 _ _ _ _ _ _ _ k) ?_
      simp only [rdr_nat, rks_length, if_pos (show (b : Int) < (s : Int) by omega), if_pos (show (0 : Int) ≤ (b : Int) by omega), if_pos (show (b : Int) < ((stF (add2 (rks s (m.getD i []) s)) (stF (add1 s m) (List.replicate s 0) i) b).length : Int) by rw [hx2]; omega), Int.toNat_natCast, w_i hb (show s ≤ 4611686018427387904 by omega)]
      simp only [stF_succ] at h
      exact h) (by
      refine Ev.step (fun k => impl_rankSums.l1.eq_2 _ _ _ _ _ _ _ k) ?_
      simp only [if_neg (show ¬ ((s : Int) < (s : Int)) by omega), w_i hi (show m.length ≤ 4611686018427387904 by omega)]
      simp only [stF_succ] at h
      exact h)) (by
    refine Ev.step (fun k => impl_rankSums.l0.eq_2 _ _ _ _ k) ?_
    simp only [if_neg (show ¬ ((m.length : Int) < (m.length : Int)) by omega)]
    exact Ev.now _)
end Go.Proofs.Ytepokbejmnkogaa.G
