/- Plain laws on the table of pairs: the reference's and the program's are the same. -/
import Derived.Test.YtngpjamojkneeaaPl
import Derived.Test.YtngpjamojkneeaaFLibMarks
import Derived.Test.YtngpjamojkneeaaG1
import Derived.Test.YtngpjamojkneeaaG1
import Derived.Test.YtngpjamojkneeaaG1
import Derived.Test.YtngpjamojkneeaaG1
namespace Go.Proofs.Ytngpjamojkneeaa.G
open Go.RowKit Go.Proofs.YtngpjamojkneeaaW.PrintWords Go.Proofs.YtngpjamojkneeaaW.PrintLast Go.Proofs.YtngpjamojkneeaaW.PrintMore
attribute [local go_sem] max2_int min2_int max_two min_two max_three min_three max_four min_four   -- for this text's walks alone
set_option linter.unusedVariables false
set_option linter.unusedSimpArgs false

open Go.Proofs.Ytngpjamojkneeaa.Wk Go.Proofs.Ytngpjamojkneeaa.Pl

/-- A square of s rows of s numbers. -/
def Sq (s : Nat) (t : List (List Int)) : Prop := t.length = s ∧ ∀ j : Nat, j < s → (t.getD j []).length = s
def upd (t : List (List Int)) (a b : Nat) : List (List Int) := t.set a ((t.getD a []).set b (wrap64 ((t.getD a []).getD b 0 + 1)))
theorem Sq.upd {s : Nat} {t : List (List Int)} (h : Sq s t) (a b : Nat) : Sq s (upd t a b) := by
  refine ⟨by simp [G.upd, h.1], fun j hj => ?_⟩
  by_cases e : j = a
  · subst e
    unfold G.upd
    rw [getD_set_self (by rw [h.1]; exact hj)]
    simpa using h.2 j hj
  · unfold G.upd
    rw [show (t.set a ((t.getD a []).set b (wrap64 ((t.getD a []).getD b 0 + 1)))).getD j [] = t.getD j [] by simp [List.getD, List.getElem?_set_ne (Ne.symm e)]]
    exact h.2 j hj
def step2 (row : List Int) (a : Nat) (t : List (List Int)) (b : Nat) : List (List Int) := if row.getD a 0 > row.getD b 0 then upd t a b else t
def step1 (s : Nat) (row : List Int) (t : List (List Int)) (a : Nat) : List (List Int) := stF (step2 row a) t s
def step0 (s : Nat) (m : List (List Int)) (t : List (List Int)) (i : Nat) : List (List Int) := stF (step1 s (m.getD i [])) t s
def squareL (s n : Nat) : List (List Int) := List.replicate n (List.replicate s 0)
def pairsL (s : Nat) (m : List (List Int)) : List (List Int) := stF (step0 s m) (squareL s s) m.length
theorem Sq.step2 {s : Nat} {t : List (List Int)} (h : Sq s t) (row : List Int) (a b : Nat) : Sq s (step2 row a t b) := by
  unfold G.step2
  split
  · exact h.upd a b
  · exact h
theorem Sq.st2 {s : Nat} {t : List (List Int)} (h : Sq s t) (row : List Int) (a n : Nat) : Sq s (stF (G.step2 row a) t n) := stF_inv (Sq s) h n (fun t b _ ht => ht.step2 row a b) n (Nat.le_refl _)
theorem Sq.st1 {s : Nat} {t : List (List Int)} (h : Sq s t) (row : List Int) (n : Nat) : Sq s (stF (G.step1 s row) t n) := stF_inv (Sq s) h n (fun t a _ ht => ht.st2 row a s) n (Nat.le_refl _)
theorem Sq.st0 {s : Nat} {t : List (List Int)} (h : Sq s t) (m : List (List Int)) (n : Nat) : Sq s (stF (G.step0 s m) t n) := stF_inv (Sq s) h n (fun t i _ ht => ht.st1 (m.getD i []) s) n (Nat.le_refl _)
theorem squareL_sq (s : Nat) : Sq s (squareL s s) := ⟨by simp [squareL], fun j hj => by simp [squareL, List.getD, hj]⟩
theorem pairsL_sq (s : Nat) (m : List (List Int)) : Sq s (pairsL s m) := (squareL_sq s).st0 m m.length
theorem squareL_snoc (s n : Nat) : squareL s n ++ [List.replicate s 0] = squareL s (n + 1) := by simp [squareL, List.replicate_succ']
theorem spec_square (s : Nat) (hs : s ≤ 8) : Ev (fun k => spec_l07Square.f k s) (squareL s s) := by
  unfold spec_l07Square.f
  exact ev_steps (F := fun k i (x : List (List Int)) => spec_l07Square.l0 k s x i) 0 s (Nat.zero_le _) (fun i => squareL s i) (squareL s s) (fun i _ hi h => by
    refine Ev.step (fun k => spec_l07Square.l0.eq_2 s _ i k) ?_
    simp only [if_pos (show (i : Int) < (s : Int) by omega), if_pos (show (0 : Int) ≤ (s : Int) by omega), Int.toNat_natCast, if_pos (show s ≤ 35184372088832 by omega), if_pos (show (squareL s i).length < 5864062014805 by simp [squareL]; omega), squareL_snoc, w_i hi (show s ≤ 4611686018427387904 by omega)]
    exact h) (by
    refine Ev.step (fun k => spec_l07Square.l0.eq_2 s _ s k) ?_
    simp only [if_neg (show ¬ ((s : Int) < (s : Int)) by omega)]
    exact Ev.now _)
theorem impl_square (s : Nat) (hs : s ≤ 8) : Ev (fun k => impl_table.f k s) (squareL s s) := by
  unfold impl_table.f
  exact ev_steps (F := fun k i (x : List (List Int)) => impl_table.l0 k s x s i) 0 s (Nat.zero_le _) (fun i => squareL s i) (squareL s s) (fun i _ hi h => by
    refine Ev.step (fun k => impl_table.l0.eq_2 s _ s i k) ?_
    simp only [if_pos (show (i : Int) < (s : Int) by omega), if_pos (show (0 : Int) ≤ (s : Int) by omega), Int.toNat_natCast, if_pos (show s ≤ 35184372088832 by omega), if_pos (show (squareL s i).length < 5864062014805 by simp [squareL]; omega), squareL_snoc, w_i hi (show s ≤ 4611686018427387904 by omega)]
    exact h) (by
    refine Ev.step (fun k => impl_table.l0.eq_2 s _ s s k) ?_
    simp only [if_neg (show ¬ ((s : Int) < (s : Int)) by omega)]
    exact Ev.now _)
theorem rd_nat (l : List Int) (j : Nat) : rd l (j : Int) = l.getD j 0 := rfl
theorem rdL_nat (l : List (List Int)) (j : Nat) : rd_L1 l (j : Int) = l.getD j [] := rfl

theorem spec_p2 (s : Nat) (m : List (List Int)) (hs : s ≤ 8) (hm : m.length ≤ 12) (i : Nat) (hi : i < m.length) (hrow : (m.getD i []).length = s) (a : Nat) (ha : a < s) (t : List (List Int)) (ht : Sq s t) (r : List (List Int))
    (h : Ev (fun k => spec_l07Pairs.l1 k s m (step1 s (m.getD i []) t a) i ((a + 1 : Nat) : Int)) r) : Ev (fun k => spec_l07Pairs.l2 k s m t i a 0) r :=
  ev_steps (F := fun k b (x : List (List Int)) => spec_l07Pairs.l2 k s m x i a b) 0 s (Nat.zero_le _) (fun b => stF (step2 (m.getD i []) a) t b) r (fun b _ hb h => by
    have hsq := ht.st2 (m.getD i []) a b
    refine Ev.step (fun k => spec_l07Pairs.l2.eq_2 s m _ i a b k) ?_
    simp only [rdL_nat, rd_nat, if_pos (show (b : Int) < (s : Int) by omega), if_pos (show (0 : Int) ≤ (i : Int) by omega), if_pos (show (i : Int) < (m.length : Int) by omega), if_pos (show (0 : Int) ≤ (a : Int) by omega), if_pos (show (0 : Int) ≤ (b : Int) by omega), if_pos (show (a : Int) < ((m.getD i []).length : Int) by omega), if_pos (show (b : Int) < ((m.getD i []).length : Int) by omega), Int.toNat_natCast, if_pos (show (a : Int) < ((stF (step2 (m.getD i []) a) t b).length : Int) by rw [hsq.1]; omega), if_pos (show (b : Int) < (((stF (step2 (m.getD i []) a) t b).getD a []).length : Int) by rw [hsq.2 a ha]; omega), w_i hb (show s ≤ 4611686018427387904 by omega)]
    simp only [stF_succ] at h
    by_cases c : (m.getD i []).getD a 0 > (m.getD i []).getD b 0
    · simp only [if_pos c]
      rw [step2, if_pos c] at h
      exact h
    · simp only [if_neg c]
      rw [step2, if_neg c] at h
      exact h) (by
    refine Ev.step (fun k => spec_l07Pairs.l2.eq_2 s m _ i a s k) ?_
    simp only [if_neg (show ¬ ((s : Int) < (s : Int)) by omega), w_i ha (show s ≤ 4611686018427387904 by omega)]
    exact h)
theorem spec_p1 (s : Nat) (m : List (List Int)) (hs : s ≤ 8) (hm : m.length ≤ 12) (i : Nat) (hi : i < m.length) (hrow : (m.getD i []).length = s) (t : List (List Int)) (ht : Sq s t) (r : List (List Int))
    (h : Ev (fun k => spec_l07Pairs.l0 k s m (step0 s m t i) ((i + 1 : Nat) : Int)) r) : Ev (fun k => spec_l07Pairs.l1 k s m t i 0) r :=
  ev_steps (F := fun k a (x : List (List Int)) => spec_l07Pairs.l1 k s m x i a) 0 s (Nat.zero_le _) (fun a => stF (step1 s (m.getD i [])) t a) r (fun a _ ha h => by
    refine Ev.step (fun k => spec_l07Pairs.l1.eq_2 s m _ i a k) ?_
    simp only [if_pos (show (a : Int) < (s : Int) by omega)]
    simp only [stF_succ] at h
    exact spec_p2 s m hs hm i hi hrow a ha _ (ht.st1 _ a) r h) (by
    refine Ev.step (fun k => spec_l07Pairs.l1.eq_2 s m _ i s k) ?_
    simp only [if_neg (show ¬ ((s : Int) < (s : Int)) by omega), w_i hi (show m.length ≤ 4611686018427387904 by omega)]
    exact h)
theorem spec_pairs_tells (s : Nat) (m : List (List Int)) (hs : s ≤ 8) (hm : m.length ≤ 12) (hrow : ∀ i : Nat, i < m.length → (m.getD i []).length = s) : Ev (fun k => spec_l07Pairs.f k s m) (pairsL s m) := by
  unfold spec_l07Pairs.f
  refine Ev.bind (spec_square s hs) ?_
  exact ev_steps (F := fun k i (x : List (List Int)) => spec_l07Pairs.l0 k s m x i) 0 m.length (Nat.zero_le _) (fun i => stF (step0 s m) (squareL s s) i) (pairsL s m) (fun i _ hi h => by
    refine Ev.step (fun k => spec_l07Pairs.l0.eq_2 s m _ i k) ?_
    simp only [if_pos (show (i : Int) < (m.length : Int) by omega)]
    simp only [stF_succ] at h
    exact spec_p1 s m hs hm i hi (hrow i hi) _ ((squareL_sq s).st0 m i) _ h) (by
    refine Ev.step (fun k => spec_l07Pairs.l0.eq_2 s m _ m.length k) ?_
    simp only [if_neg (show ¬ ((m.length : Int) < (m.length : Int)) by omega)]
    exact Ev.now _)

theorem impl_p2 (s : Nat) (m : List (List Int)) (hs : s ≤ 8) (hm : m.length ≤ 12) (i : Nat) (hi : i < m.length) (hrow : (m.getD i []).length = s) (a : Nat) (ha : a < s) (t : List (List Int)) (ht : Sq s t) (r : List (List Int))
    (h : Ev (fun k => impl_pairs.l1 k (step1 s (m.getD i []) t a) (m.getD i []) m m.length i (m.getD i []) s ((a + 1 : Nat) : Int)) r) : Ev (fun k => impl_pairs.l2 k t (m.getD i []) a ((m.getD i []).getD a 0) m m.length i (m.getD i []) s a (m.getD i []) s 0) r :=
  ev_steps (F := fun k b (x : List (List Int)) => impl_pairs.l2 k x (m.getD i []) a ((m.getD i []).getD a 0) m m.length i (m.getD i []) s a (m.getD i []) s b) 0 s (Nat.zero_le _) (fun b => stF (step2 (m.getD i []) a) t b) r (fun b _ hb h => by
    have hsq := ht.st2 (m.getD i []) a b
    refine Ev.step (fun k => impl_pairs.l2.eq_2 _ _ _ _ _ _ _ _ _ _ _ _ _ k) ?_
    simp only [rdL_nat, rd_nat, if_pos (show (b : Int) < (s : Int) by omega), if_pos (show (0 : Int) ≤ (a : Int) by omega), if_pos (show (0 : Int) ≤ (b : Int) by omega), if_pos (show (b : Int) < ((m.getD i []).length : Int) by omega), Int.toNat_natCast, if_pos (show (a : Int) < ((stF (step2 (m.getD i []) a) t b).length : Int) by rw [hsq.1]; omega), if_pos (show (b : Int) < (((stF (step2 (m.getD i []) a) t b).getD a []).length : Int) by rw [hsq.2 a ha]; omega), w_i hb (show s ≤ 4611686018427387904 by omega)]
    simp only [stF_succ] at h
    by_cases c : (m.getD i []).getD a 0 > (m.getD i []).getD b 0
    · simp only [if_pos c]
      rw [step2, if_pos c] at h
      exact h
    · simp only [if_neg c]
      rw [step2, if_neg c] at h
      exact h) (by
    refine Ev.step (fun k => impl_pairs.l2.eq_2 _ _ _ _ _ _ _ _ _ _ _ _ _ k) ?_
    simp only [if_neg (show ¬ ((s : Int) < (s : Int)) by omega), w_i ha (show s ≤ 4611686018427387904 by omega)]
    exact h)
theorem impl_p1 (s : Nat) (m : List (List Int)) (hs : s ≤ 8) (hm : m.length ≤ 12) (i : Nat) (hi : i < m.length) (hrow : (m.getD i []).length = s) (t : List (List Int)) (ht : Sq s t) (r : List (List Int))
    (h : Ev (fun k => impl_pairs.l0 k (step0 s m t i) m m.length ((i + 1 : Nat) : Int)) r) : Ev (fun k => impl_pairs.l1 k t (m.getD i []) m m.length i (m.getD i []) s 0) r :=
  ev_steps (F := fun k a (x : List (List Int)) => impl_pairs.l1 k x (m.getD i []) m m.length i (m.getD i []) s a) 0 s (Nat.zero_le _) (fun a => stF (step1 s (m.getD i [])) t a) r (fun a _ ha h => by
    refine Ev.step (fun k => impl_pairs.l1.eq_2 _ _ _ _ _ _ _ _ k) ?_
    simp only [hrow, rd_nat, if_pos (show (a : Int) < (s : Int) by omega), if_pos (show (0 : Int) ≤ (a : Int) by omega)]
    simp only [stF_succ] at h
    exact impl_p2 s m hs hm i hi hrow a ha _ (ht.st1 _ a) r h) (by
    refine Ev.step (fun k => impl_pairs.l1.eq_2 _ _ _ _ _ _ _ _ k) ?_
    simp only [if_neg (show ¬ ((s : Int) < (s : Int)) by omega), w_i hi (show m.length ≤ 4611686018427387904 by omega)]
    exact h)
theorem impl_pairs_tells (s : Nat) (m : List (List Int)) (hs : s ≤ 8) (hm : m.length ≤ 12) (hrow : ∀ i : Nat, i < m.length → (m.getD i []).length = s) : Ev (fun k => impl_pairs.f k s m) (pairsL s m) := by
  unfold impl_pairs.f
  refine Ev.bind (impl_square s hs) ?_
  exact ev_steps (F := fun k i (x : List (List Int)) => impl_pairs.l0 k x m m.length i) 0 m.length (Nat.zero_le _) (fun i => stF (step0 s m) (squareL s s) i) (pairsL s m) (fun i _ hi h => by
    refine Ev.step (fun k => impl_pairs.l0.eq_2 _ _ _ _ k) ?_
    simp only [rdL_nat, if_pos (show (i : Int) < (m.length : Int) by omega), if_pos (show (0 : Int) ≤ (i : Int) by omega), hrow i hi]
    simp only [stF_succ] at h
    exact impl_p1 s m hs hm i hi (hrow i hi) _ ((squareL_sq s).st0 m i) _ h) (by
    refine Ev.step (fun k => impl_pairs.l0.eq_2 _ _ _ _ k) ?_
    simp only [if_neg (show ¬ ((m.length : Int) < (m.length : Int)) by omega)]
    exact Ev.now _)
/-- What good marks are. -/
theorem marksB_says {s : Int} {m : List (List Int)} (h : marksB s m = true) : ∃ q : Nat, s = q ∧ 1 ≤ q ∧ q ≤ 8 ∧ m.length ≤ 12 ∧ ∀ i : Nat, i < m.length → (m.getD i []).length = q := by
  unfold marksB inB at h
  simp only [Bool.and_eq_true, decide_eq_true_eq, List.all_eq_true] at h
  refine ⟨s.toNat, by omega, by omega, by omega, h.2.1, fun i hi => ?_⟩
  have := h.2.2 _ (List.getElem_mem hi)
  unfold rowB at this
  rw [Bool.and_eq_true, decide_eq_true_eq] at this
  rw [getD_lt hi]
  omega
end Go.Proofs.Ytngpjamojkneeaa.G
