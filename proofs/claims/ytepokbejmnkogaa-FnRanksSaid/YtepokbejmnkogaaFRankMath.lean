/- Plain laws on ranks: a taster's ranks sum up, are less for greater marks, and are no further apart than those of a taster who finds no two samples alike. -/
import Derived.Test.YtepokbejmnkogaaPl
import Derived.Test.YtepokbejmnkogaaFLibRanks
namespace Go.Proofs.Ytepokbejmnkogaa.G
open Go.RowKit Go.Proofs.YtepokbejmnkogaaW.PrintWords Go.Proofs.YtepokbejmnkogaaW.PrintLast Go.Proofs.YtepokbejmnkogaaW.PrintMore
attribute [local go_sem] max2_int min2_int max_two min_two max_three min_three max_four min_four   -- for this text's walks alone
set_option linter.unusedVariables false
set_option linter.unusedSimpArgs false

open Go.Proofs.Ytepokbejmnkogaa.Wk Go.Proofs.Ytepokbejmnkogaa.Pl
namespace RankMath
def Gt (x : Int) (row : List Int) : Nat := row.countP (fun y => decide (x < y))
def Eq (x : Int) (row : List Int) : Nat := row.countP (fun y => decide (y = x))
/-- The rank of a mark. -/
def R (row : List Int) (x : Int) : Int := 1 + 2 * (Gt x row : Int) + (Eq x row : Int)
theorem le_len (x : Int) : ∀ row : List Int, Gt x row + Eq x row ≤ row.length
  | [] => by simp [Gt, Eq]
  | y :: r => by
    have := le_len x r
    unfold Gt Eq at *
    rw [List.countP_cons, List.countP_cons, List.length_cons]
    by_cases h1 : x < y <;> by_cases h2 : y = x <;> simp [h1, h2] <;> omega
theorem ge (x y : Int) (h : y < x) : ∀ row : List Int, Gt x row + Eq x row ≤ Gt y row
  | [] => by simp [Gt, Eq]
  | z :: r => by
    have := ge x y h r
    unfold Gt Eq at *
    rw [List.countP_cons, List.countP_cons, List.countP_cons]
    by_cases h2 : z = x
    · subst h2; simp [h]; omega
    · by_cases h1 : x < z <;> by_cases h3 : y < z <;> simp [h1, h2, h3] <;> omega
theorem eq_pos {x : Int} {row : List Int} (h : x ∈ row) : 1 ≤ Eq x row := by
  unfold Eq
  exact List.countP_pos_iff.2 ⟨x, h, by simp⟩
theorem R_bd {x : Int} {row : List Int} (h : x ∈ row) : 2 ≤ R row x ∧ R row x ≤ 2 * row.length := by
  have h1 := eq_pos h
  have h2 := le_len x row
  unfold R
  omega
theorem R_lt {x y : Int} {row : List Int} (hx : x ∈ row) (hy : y ∈ row) : (y < x ↔ R row x < R row y) := by
  have h1 := eq_pos hx
  have h2 := eq_pos hy
  constructor
  · intro h
    have := ge x y h row
    unfold R
    omega
  · intro h
    apply Decidable.byContradiction
    intro hn
    by_cases e : x = y
    · subst e; omega
    · have := ge y x (by omega) row
      unfold R at h
      omega
theorem rk_R (row : List Int) (a : Nat) (hr : row.length ≤ 8) : ∀ n, n ≤ row.length → stF (rstep row a) 1 n = R (row.take n) (row.getD a 0)
  | 0, _ => by simp [stF_zero, R, Gt, Eq]
  | n + 1, hn => by
    have ih := rk_R row a hr n (by omega)
    have h1 := le_len (row.getD a 0) (row.take n)
    rw [List.length_take] at h1
    rw [stF_succ, ih, List.take_succ_eq_append_getElem (by omega)]
    have hg : row.getD n 0 = row[n] := getD_lt (by omega) 0
    unfold rstep R Gt Eq
    unfold Gt Eq at h1
    rw [hg, List.countP_append, List.countP_append, List.countP_singleton, List.countP_singleton]
    by_cases c1 : row[n] > row.getD a 0
    · rw [if_pos c1, w_id (by omega) (by omega)]
      have e1 : decide (row.getD a 0 < row[n]) = true := decide_eq_true c1
      have e2 : decide (row[n] = row.getD a 0) = false := decide_eq_false (by omega)
      rw [e1, e2]
      simp
      omega
    · rw [if_neg c1]
      by_cases c2 : row[n] = row.getD a 0
      · rw [if_pos c2, w_id (by omega) (by omega)]
        have e1 : decide (row.getD a 0 < row[n]) = false := decide_eq_false (by omega)
        have e2 : decide (row[n] = row.getD a 0) = true := decide_eq_true c2
        rw [e1, e2]
        simp
        omega
      · rw [if_neg c2]
        have e1 : decide (row.getD a 0 < row[n]) = false := decide_eq_false (by omega)
        have e2 : decide (row[n] = row.getD a 0) = false := decide_eq_false c2
        rw [e1, e2]
        simp
theorem rk_is (s : Nat) (row : List Int) (a : Nat) (hs : s ≤ 8) (hr : row.length = s) : rk s row a = R row (row.getD a 0) := by
  unfold rk
  rw [rk_R row a (by omega) s (by omega), List.take_of_length_le (by omega)]
theorem counts : ∀ row : List Int, (∀ x ∈ row, 0 ≤ x ∧ x < 5) → row.length = Eq 0 row + Eq 1 row + Eq 2 row + Eq 3 row + Eq 4 row ∧ Gt 0 row = Eq 1 row + Eq 2 row + Eq 3 row + Eq 4 row ∧ Gt 1 row = Eq 2 row + Eq 3 row + Eq 4 row ∧ Gt 2 row = Eq 3 row + Eq 4 row ∧ Gt 3 row = Eq 4 row ∧ Gt 4 row = 0
  | [], _ => by simp [Gt, Eq]
  | x :: r, h => by
    have ih := counts r fun y hy => h y (List.mem_cons_of_mem _ hy)
    have hx := h x (List.mem_cons_self)
    unfold Gt Eq at *
    simp only [List.countP_cons, List.length_cons]
    obtain rfl | rfl | rfl | rfl | rfl : x = 0 ∨ x = 1 ∨ x = 2 ∨ x = 3 ∨ x = 4 := by omega
    all_goals (simp [-List.countP_eq_zero]; omega)
theorem sum_counts (g : Int → Int) : ∀ row : List Int, (∀ x ∈ row, 0 ≤ x ∧ x < 5) → (row.map g).sum = (Eq 0 row : Int) * g 0 + (Eq 1 row : Int) * g 1 + (Eq 2 row : Int) * g 2 + (Eq 3 row : Int) * g 3 + (Eq 4 row : Int) * g 4
  | [], _ => by simp [Eq]
  | x :: r, h => by
    have ih := sum_counts g r fun y hy => h y (List.mem_cons_of_mem _ hy)
    have hx := h x (List.mem_cons_self)
    rw [List.map_cons, List.sum_cons, ih]
    unfold Eq
    simp only [List.countP_cons]
    obtain rfl | rfl | rfl | rfl | rfl : x = 0 ∨ x = 1 ∨ x = 2 ∨ x = 3 ∨ x = 4 := by omega
    all_goals simp [Int.add_mul] <;> omega
/-- How far apart the ranks are of a taster who finds no two samples alike. -/
def D : Nat → Int
  | 1 => 0
  | 2 => 8
  | 3 => 72
  | 4 => 320
  | 5 => 1000
  | 6 => 2520
  | _ => 0
def sq (x : Int) : Int := x * x
def chkC (c0 c1 c2 c3 c4 : Nat) : Bool :=
  let s := c0 + c1 + c2 + c3 + c4
  if 1 ≤ s ∧ s ≤ 6 then
    decide ((c0 : Int) * (1 + 2 * (c1 + c2 + c3 + c4 : Nat) + c0) + (c1 : Int) * (1 + 2 * (c2 + c3 + c4 : Nat) + c1) + (c2 : Int) * (1 + 2 * (c3 + c4 : Nat) + c2) + (c3 : Int) * (1 + 2 * (c4 : Nat) + c3) + (c4 : Int) * (1 + c4) = (s : Int) * (s + 1))
    && decide ((c0 : Int) * sq (s * (1 + 2 * (c1 + c2 + c3 + c4 : Nat) + c0) - s * (s + 1)) + (c1 : Int) * sq (s * (1 + 2 * (c2 + c3 + c4 : Nat) + c1) - s * (s + 1)) + (c2 : Int) * sq (s * (1 + 2 * (c3 + c4 : Nat) + c2) - s * (s + 1)) + (c3 : Int) * sq (s * (1 + 2 * (c4 : Nat) + c3) - s * (s + 1)) + (c4 : Int) * sq (s * (1 + c4) - s * (s + 1)) ≤ D s)
  else true
theorem chk_all : ((List.range 7).all fun c0 => (List.range (7 - c0)).all fun c1 => (List.range (7 - c0 - c1)).all fun c2 => (List.range (7 - c0 - c1 - c2)).all fun c3 => (List.range (7 - c0 - c1 - c2 - c3)).all fun c4 => chkC c0 c1 c2 c3 c4) = true := by decide +kernel
theorem chk_at (c0 c1 c2 c3 c4 : Nat) (h : c0 + c1 + c2 + c3 + c4 ≤ 6) : chkC c0 c1 c2 c3 c4 = true := by
  have h0 := List.all_eq_true.1 chk_all c0 (List.mem_range.2 (by omega))
  have h1 := List.all_eq_true.1 h0 c1 (List.mem_range.2 (by omega))
  have h2 := List.all_eq_true.1 h1 c2 (List.mem_range.2 (by omega))
  have h3 := List.all_eq_true.1 h2 c3 (List.mem_range.2 (by omega))
  exact List.all_eq_true.1 h3 c4 (List.mem_range.2 (by omega))
theorem row_sums (row : List Int) (s : Nat) (h : ∀ x ∈ row, 0 ≤ x ∧ x < 5) (hl : row.length = s) (h1 : 1 ≤ s) (h6 : s ≤ 6) : (row.map (R row)).sum = (s : Int) * (s + 1) ∧ (row.map fun x => sq (s * R row x - s * (s + 1))).sum ≤ D s := by
  obtain ⟨k, g0, g1, g2, g3, g4⟩ := counts row h
  have hc := chk_at (Eq 0 row) (Eq 1 row) (Eq 2 row) (Eq 3 row) (Eq 4 row) (by omega)
  rw [sum_counts _ row h, sum_counts _ row h]
  unfold R
  rw [g0, g1, g2, g3, g4]
  unfold chkC at hc
  simp only [← k, hl] at hc
  rw [if_pos ⟨h1, h6⟩, Bool.and_eq_true, decide_eq_true_eq, decide_eq_true_eq] at hc
  simpa using hc
/-- A sum over the first places. -/
def sm (f : Nat → Int) : Nat → Int
  | 0 => 0
  | n + 1 => sm f n + f n
theorem sm_congr {f g : Nat → Int} : ∀ n, (∀ i, i < n → f i = g i) → sm f n = sm g n
  | 0, _ => rfl
  | n + 1, h => by rw [sm, sm, sm_congr n fun i hi => h i (by omega), h n (by omega)]
theorem sm_le {f g : Nat → Int} : ∀ n, (∀ i, i < n → f i ≤ g i) → sm f n ≤ sm g n
  | 0, _ => Int.le_refl _
  | n + 1, h => by have := sm_le n fun i hi => h i (by omega); have := h n (by omega); rw [sm, sm]; omega
theorem sm_add (f g : Nat → Int) : ∀ n, sm (fun i => f i + g i) n = sm f n + sm g n
  | 0 => rfl
  | n + 1 => by rw [sm, sm, sm, sm_add f g n]; omega
theorem sm_mul (c : Int) (f : Nat → Int) : ∀ n, sm (fun i => c * f i) n = c * sm f n
  | 0 => by simp [sm]
  | n + 1 => by rw [sm, sm, sm_mul c f n, Int.mul_add]
theorem sm_const (c : Int) : ∀ n, sm (fun _ => c) n = n * c
  | 0 => by simp [sm]
  | n + 1 => by rw [sm, sm_const c n]; simp [Int.add_mul]
theorem sm_zero : ∀ n, sm (fun _ => 0) n = 0
  | 0 => rfl
  | n + 1 => by rw [sm, sm_zero n]; rfl
theorem sm_swap (f : Nat → Nat → Int) (n : Nat) : ∀ q, sm (fun i => sm (fun t => f t i) n) q = sm (fun t => sm (fun i => f t i) q) n
  | 0 => by simp only [sm]; rw [sm_zero]
  | q + 1 => by
    simp only [sm]
    rw [sm_swap f n q, ← sm_add]
theorem sm_list (g : Int → Int) (l : List Int) : (l.map g).sum = sm (fun i => g (l.getD i 0)) l.length := by
  have key : ∀ n, n ≤ l.length → ((l.take n).map g).sum = sm (fun i => g (l.getD i 0)) n := by
    intro n
    induction n with
    | zero => intro _; simp [sm]
    | succ n ih =>
      intro hn
      rw [List.take_succ_eq_append_getElem (by omega), List.map_append, List.sum_append, ih (by omega), sm, getD_lt (by omega)]
      simp
  have := key l.length (Nat.le_refl _)
  rwa [List.take_length] at this
theorem sq_nonneg (x : Int) : 0 ≤ sq x := by
  unfold sq
  rcases Int.le_total 0 x with h | h
  · exact Int.mul_nonneg h h
  · have := Int.mul_nonneg (show 0 ≤ -x by omega) (show 0 ≤ -x by omega)
    rwa [Int.neg_mul_neg] at this
theorem sm_nonneg {f : Nat → Int} : ∀ n, (∀ i, i < n → 0 ≤ f i) → 0 ≤ sm f n
  | 0, _ => Int.le_refl _
  | n + 1, h => by have := sm_nonneg n fun i hi => h i (by omega); have := h n (by omega); rw [sm]; omega
theorem apart (x : Int) (f : Nat → Int) : ∀ n, sm (fun i => sq (x - f i)) n = sm (fun i => sq (f i)) n + n * sq x - 2 * x * sm f n
  | 0 => by simp [sm]
  | n + 1 => by
    simp only [sm]
    rw [apart x f n]
    unfold sq
    grind
/-- The square of a sum is no greater than as many times the sum of the squares. -/
theorem cauchy (f : Nat → Int) : ∀ n, sq (sm f n) ≤ n * sm (fun i => sq (f i)) n
  | 0 => by simp [sm, sq]
  | n + 1 => by
    have ih := cauchy f n
    have h := sm_nonneg n (fun i _ => sq_nonneg (f n - f i))
    rw [apart] at h
    simp only [sm]
    unfold sq at *
    have e : ((n + 1 : Nat) : Int) = n + 1 := by omega
    rw [e]
    grind
end RankMath
end Go.Proofs.Ytepokbejmnkogaa.G
