/- FnRanks: the law of ranks answers true, for all two rows of bytes. No condition. -/
import Derived.Test.YtepokbejmnkogaaSayFnRanks
import Derived.Test.YtepokbejmnkogaaFLibDraw
import Derived.Test.YtepokbejmnkogaaFRankMath
import Derived.Test.YtepokbejmnkogaaFSumEq
import Derived.Test.YtepokbejmnkogaaFSumFJ
import Derived.Test.YtepokbejmnkogaaFOrder
import Derived.Test.YtepokbejmnkogaaFLibSame
namespace Go.Proofs.Ytepokbejmnkogaa.PureFnRanks
open Go.RowKit Go.Proofs.YtepokbejmnkogaaW.PrintWords Go.Proofs.Ytepokbejmnkogaa.G Go.Proofs.Ytepokbejmnkogaa.SayFnRanks Go.Proofs.Ytepokbejmnkogaa.Wk Go.Proofs.Ytepokbejmnkogaa.Pl RankMath
set_option linter.unusedSimpArgs false
set_option linter.unusedVariables false

/-- Marks that are good: each row has s marks below 5. -/
structure Good (s : Nat) (m : List (List Int)) : Prop where
  s1 : 1 ≤ s
  s6 : s ≤ 6
  n5 : m.length ≤ 5
  row : ∀ t : Nat, t < m.length → (m.getD t []).length = s
  mark : ∀ t : Nat, t < m.length → ∀ x ∈ m.getD t [], 0 ≤ x ∧ x < 5
theorem good_of {s : Nat} {m : List (List Int)} (hs : 1 ≤ s ∧ s ≤ 6) (h : Draw.MarksOk s m) : Good s m :=
  ⟨hs.1, hs.2, h.1, fun t ht => ((Draw.marks_B hs h).2 t ht).1, fun t ht => ((Draw.marks_B hs h).2 t ht).2⟩
theorem Good.marksB {s : Nat} {m : List (List Int)} (h : Good s m) : marksB s m = true := by
  unfold G.marksB
  rw [inB_yes (by have := h.s1; omega) (by have := h.s6; omega), Bool.true_and, Bool.and_eq_true]
  refine ⟨decide_eq_true (by have := h.n5; omega), List.all_eq_true.2 fun x hx => ?_⟩
  obtain ⟨t, ht, rfl⟩ := List.getElem_of_mem hx
  have h1 := h.row t ht
  have h2 := h.mark t ht
  rw [getD_lt ht] at h1 h2
  unfold rowB
  rw [Bool.and_eq_true]
  refine ⟨decide_eq_true (by omega), ?_⟩
  unfold allB
  exact List.all_eq_true.2 fun y hy => inB_yes (h2 y hy).1 (by have := (h2 y hy).2; omega)
/-- The rank of a sample for a taster. -/
def rr (m : List (List Int)) (t i : Nat) : Int := R (m.getD t []) ((m.getD t []).getD i 0)
theorem rks_get {s : Nat} {m : List (List Int)} (h : Good s m) {t i : Nat} (ht : t < m.length) (hi : i < s) : (rks s (m.getD t []) s).getD i 0 = rr m t i := by
  rw [getD_lt (by rw [rks_length]; exact hi)]
  unfold rks
  rw [List.getElem_map, List.getElem_range, rk_is s _ i (by have := h.s6; omega) (h.row t ht)]
  rfl
theorem mem_at {s : Nat} {m : List (List Int)} (h : Good s m) {t i : Nat} (ht : t < m.length) (hi : i < s) : (m.getD t []).getD i 0 ∈ m.getD t [] := by
  have := h.row t ht
  rw [getD_lt (show i < (m.getD t []).length by omega)]
  exact List.getElem_mem _
theorem rr_bd {s : Nat} {m : List (List Int)} (h : Good s m) {t i : Nat} (ht : t < m.length) (hi : i < s) : 2 ≤ rr m t i ∧ rr m t i ≤ 2 * s := by
  have := R_bd (mem_at h ht hi)
  rw [h.row t ht] at this
  exact this
theorem add2_get (row x : List Int) (i : Nat) : ∀ n, n ≤ x.length → (stF (add2 row) x n).getD i 0 = if i < n then wrap64 (x.getD i 0 + row.getD i 0) else x.getD i 0
  | 0, _ => by rw [stF_zero, if_neg (by omega)]
  | n + 1, hn => by
    have ih := fun i => add2_get row x i n (by omega)
    have hl : (stF (add2 row) x n).length = x.length := add2_len rfl row n
    rw [stF_succ]
    show ((stF (add2 row) x n).set n (wrap64 ((stF (add2 row) x n).getD n 0 + row.getD n 0))).getD i 0 = _
    rw [Sum.getD_set]
    by_cases e : n = i
    · subst e
      rw [if_pos ⟨rfl, by omega⟩, if_pos (by omega), ih n, if_neg (by omega)]
    · rw [if_neg (fun h => e h.1), ih i]
      by_cases h1 : i < n
      · rw [if_pos h1, if_pos (by omega)]
      · rw [if_neg h1, if_neg (by omega)]
theorem sums_get {s : Nat} {m : List (List Int)} (h : Good s m) {i : Nat} (hi : i < s) : ∀ n, n ≤ m.length → (stF (add1 s m) (List.replicate s 0) n).getD i 0 = sm (fun t => rr m t i) n ∧ 0 ≤ sm (fun t => rr m t i) n ∧ sm (fun t => rr m t i) n ≤ 16 * n
  | 0, _ => by
    refine ⟨?_, by simp [sm], by simp [sm]⟩
    rw [stF_zero, sm]
    simp [List.getD, hi]
  | n + 1, hn => by
    obtain ⟨h1, h2, h3⟩ := sums_get h hi n (by omega)
    have hl : (stF (add1 s m) (List.replicate s 0) n).length = s := add1_len (by simp) m n
    have hb := rr_bd h (show n < m.length by omega) hi
    have h6 := h.s6
    have e : (stF (add1 s m) (List.replicate s 0) (n + 1)).getD i 0 = sm (fun t => rr m t i) (n + 1) := by
      rw [stF_succ]
      show (stF (add2 (rks s (m.getD n []) s)) (stF (add1 s m) (List.replicate s 0) n) s).getD i 0 = _
      rw [add2_get _ _ i s (by omega), if_pos hi, rks_get h (show n < m.length by omega) hi, h1, w_id (by omega) (by have := h.n5; omega), sm]
    refine ⟨e, ?_, ?_⟩ <;> rw [sm] <;> omega
theorem S_get {s : Nat} {m : List (List Int)} (h : Good s m) {i : Nat} (hi : i < s) : (sumsL s m).getD i 0 = sm (fun t => rr m t i) m.length := (sums_get h hi m.length (Nat.le_refl _)).1
theorem sq_le {d B : Int} (h1 : -B ≤ d) (h2 : d ≤ B) : sq d ≤ B * B := by
  unfold sq
  rcases Int.le_total 0 d with h | h
  · exact Int.mul_le_mul h2 h2 h (by omega)
  · have := Int.mul_le_mul (show -d ≤ B by omega) (show -d ≤ B by omega) (by omega) (by omega)
    rwa [Int.neg_mul_neg] at this
theorem sm_bd (f : Nat → Int) (c : Int) : ∀ n, (∀ i, i < n → 0 ≤ f i ∧ f i ≤ c) → 0 ≤ sm f n ∧ sm f n ≤ n * c
  | 0, _ => by simp [sm]
  | n + 1, h => by
    have h1 := sm_bd f c n fun i hi => h i (by omega)
    have h2 := h n (by omega)
    rw [sm]
    have : ((n + 1 : Nat) : Int) * c = n * c + c := by rw [show ((n + 1 : Nat) : Int) = n + 1 by omega, Int.add_mul]; omega
    omega
/-- How far sums are apart. -/
def spr (s : Nat) (x : List Int) : Int := sm (fun i => sq ((s : Int) * x.getD i 0 - sm (fun i => x.getD i 0) x.length)) x.length
theorem prod_bd {s : Nat} {x : Int} (hs : s ≤ 8) (h0 : 0 ≤ x) (h1 : x ≤ 1632) : 0 ≤ (s : Int) * x ∧ (s : Int) * x ≤ 13056 :=
  ⟨Int.mul_nonneg (by omega) h0, by have := Int.mul_le_mul (show (s : Int) ≤ 8 by omega) h1 h0 (by omega); omega⟩
theorem all_bd {x : List Int} (hb : SumW.BdL 1632 x) {n : Nat} (hn : n ≤ 8) : 0 ≤ sm (fun i => x.getD i 0) n ∧ sm (fun i => x.getD i 0) n ≤ 13056 := by
  have := sm_bd (fun i => x.getD i 0) 1632 n fun i _ => by have := hb i; omega
  omega
theorem sq_bd {s : Nat} {x : List Int} (hs : s ≤ 8) (hl : x.length ≤ 8) (hb : SumW.BdL 1632 x) (i : Nat) : 0 ≤ sq ((s : Int) * x.getD i 0 - sm (fun i => x.getD i 0) x.length) ∧ sq ((s : Int) * x.getD i 0 - sm (fun i => x.getD i 0) x.length) ≤ 170459136 := by
  have h1 := prod_bd (x := x.getD i 0) hs (by have := hb i; omega) (by have := hb i; omega)
  have h2 := all_bd hb hl
  exact ⟨sq_nonneg _, by have := sq_le (d := (s : Int) * x.getD i 0 - sm (fun i => x.getD i 0) x.length) (B := 13056) (by omega) (by omega); omega⟩
theorem step_sq {s : Nat} {x : List Int} (hs : s ≤ 8) (hl : x.length ≤ 8) (hb : SumW.BdL 1632 x) (i : Nat) (hi : i < x.length) :
    wrap64 (sm (fun i => sq ((s : Int) * x.getD i 0 - sm (fun i => x.getD i 0) x.length)) i + (wrap64 ((wrap64 ((wrap64 ((s : Int) * (rd x i))) - (sm (fun i => x.getD i 0) x.length))) * (wrap64 ((wrap64 ((s : Int) * (rd x i))) - (sm (fun i => x.getD i 0) x.length))))) ) = sm (fun i => sq ((s : Int) * x.getD i 0 - sm (fun i => x.getD i 0) x.length)) (i + 1) := by
  have hr : rd x (i : Int) = x.getD i 0 := rfl
  have h1 := prod_bd (x := x.getD i 0) hs (by have := hb i; omega) (by have := hb i; omega)
  have h2 := all_bd hb hl
  have h3 := sq_bd hs hl hb i
  have h4 := sm_bd (fun i => sq ((s : Int) * x.getD i 0 - sm (fun i => x.getD i 0) x.length)) 170459136 i fun j _ => sq_bd hs hl hb j
  rw [hr, w_id (x := (s : Int) * x.getD i 0) (by omega) (by omega), w_id (x := (s : Int) * x.getD i 0 - sm (fun i => x.getD i 0) x.length) (by omega) (by omega)]
  rw [sm]
  show wrap64 (_ + wrap64 (sq ((s : Int) * x.getD i 0 - sm (fun i => x.getD i 0) x.length))) = _
  rw [w_id (x := sq _) (by omega) (by omega), w_id (by omega) (by omega)]
theorem step_all {x : List Int} (hl : x.length ≤ 8) (hb : SumW.BdL 1632 x) (i : Nat) (hi : i < x.length) : wrap64 (sm (fun i => x.getD i 0) i + rd x (i : Int)) = sm (fun i => x.getD i 0) (i + 1) := by
  have hr : rd x (i : Int) = x.getD i 0 := rfl
  have h1 := all_bd hb (show i ≤ 8 by omega)
  have := hb i
  rw [hr, w_id (by omega) (by omega), sm]
theorem spec_spread {s : Nat} {x : List Int} (hs : s ≤ 8) (hl : x.length ≤ 8) (hb : SumW.BdL 1632 x) : Ev (fun k => spec_SpreadOf.l0 k s x 0 0) (spr s x, 0) := by
  refine ev_steps (F := fun k i t => spec_SpreadOf.l0 k s x t i) 0 x.length (Nat.zero_le _) (fun i => sm (fun i => x.getD i 0) i) (spr s x, 0) (fun i _ hi h => ?_) ?_
  · refine Ev.step (fun k => spec_SpreadOf.l0.eq_2 _ _ _ _ k) ?_
    simp only [if_pos (show (i : Int) < (x.length : Int) by omega), if_pos (show (0 : Int) ≤ (i : Int) by omega), step_all hl hb i hi, w_i hi (show x.length ≤ 4611686018427387904 by omega)]
    exact h
  · refine Ev.step (fun k => spec_SpreadOf.l0.eq_2 _ _ _ _ k) ?_
    simp only [if_neg (show ¬ ((x.length : Int) < (x.length : Int)) by omega)]
    refine ev_steps (F := fun k i u => spec_SpreadOf.l1 k s x (sm (fun i => x.getD i 0) x.length) u i) 0 x.length (Nat.zero_le _) (fun i => sm (fun i => sq ((s : Int) * x.getD i 0 - sm (fun i => x.getD i 0) x.length)) i) (spr s x, 0) (fun i _ hi h => ?_) ?_
    · refine Ev.step (fun k => spec_SpreadOf.l1.eq_2 _ _ _ _ _ k) ?_
      simp only [if_pos (show (i : Int) < (x.length : Int) by omega), if_pos (show (0 : Int) ≤ (i : Int) by omega), step_sq hs hl hb i hi, w_i hi (show x.length ≤ 4611686018427387904 by omega)]
      exact h
    · refine Ev.step (fun k => spec_SpreadOf.l1.eq_2 _ _ _ _ _ k) ?_
      simp only [if_neg (show ¬ ((x.length : Int) < (x.length : Int)) by omega)]
      exact Ev.now _
theorem impl_spread {s : Nat} {x : List Int} (hs : s ≤ 8) (hl : x.length ≤ 8) (hb : SumW.BdL 1632 x) : Ev (fun k => impl_SpreadOf.l0 k s x 0 0 x x.length 0) (spr s x, 0) := by
  refine ev_steps (F := fun k i t => impl_SpreadOf.l0 k s x t 0 x x.length i) 0 x.length (Nat.zero_le _) (fun i => sm (fun i => x.getD i 0) i) (spr s x, 0) (fun i _ hi h => ?_) ?_
  · refine Ev.step (fun k => impl_SpreadOf.l0.eq_2 _ _ _ _ _ _ _ k) ?_
    simp only [if_pos (show (i : Int) < (x.length : Int) by omega), if_pos (show (0 : Int) ≤ (i : Int) by omega), step_all hl hb i hi, w_i hi (show x.length ≤ 4611686018427387904 by omega)]
    exact h
  · refine Ev.step (fun k => impl_SpreadOf.l0.eq_2 _ _ _ _ _ _ _ k) ?_
    simp only [if_neg (show ¬ ((x.length : Int) < (x.length : Int)) by omega)]
    refine ev_steps (F := fun k i u => impl_SpreadOf.l1 k s (sm (fun i => x.getD i 0) x.length) u x x.length i) 0 x.length (Nat.zero_le _) (fun i => sm (fun i => sq ((s : Int) * x.getD i 0 - sm (fun i => x.getD i 0) x.length)) i) (spr s x, 0) (fun i _ hi h => ?_) ?_
    · refine Ev.step (fun k => impl_SpreadOf.l1.eq_2 _ _ _ _ _ _ k) ?_
      simp only [if_pos (show (i : Int) < (x.length : Int) by omega), if_pos (show (0 : Int) ≤ (i : Int) by omega), step_sq hs hl hb i hi, w_i hi (show x.length ≤ 4611686018427387904 by omega)]
      exact h
    · refine Ev.step (fun k => impl_SpreadOf.l1.eq_2 _ _ _ _ _ _ k) ?_
      simp only [if_neg (show ¬ ((x.length : Int) < (x.length : Int)) by omega)]
      exact Ev.now _
theorem sm_aff (c e : Int) (f : Nat → Int) : ∀ n, sm (fun t => c * f t - e) n = c * sm f n - n * e
  | 0 => by simp [sm]
  | n + 1 => by
    rw [sm, sm, sm_aff c e f n]
    have : ((n + 1 : Nat) : Int) * e = n * e + e := by rw [show ((n + 1 : Nat) : Int) = n + 1 by omega, Int.add_mul]; omega
    rw [this, Int.mul_add]
    omega
theorem row_sum {s : Nat} {m : List (List Int)} (h : Good s m) {t : Nat} (ht : t < m.length) : sm (fun i => rr m t i) s = (s : Int) * (s + 1) ∧ sm (fun i => sq ((s : Int) * rr m t i - s * (s + 1))) s ≤ D s := by
  have := row_sums (m.getD t []) s (h.mark t ht) (h.row t ht) h.s1 h.s6
  rw [sm_list, sm_list (fun x => sq ((s : Int) * R (m.getD t []) x - s * (s + 1))), h.row t ht] at this
  exact this
theorem far_le {s : Nat} {m : List (List Int)} (h : Good s m) : spr s (sumsL s m) ≤ m.length * (m.length * D s) := by
  unfold spr
  rw [sumsL_len]
  have eT : sm (fun i => (sumsL s m).getD i 0) s = m.length * ((s : Int) * (s + 1)) := by
    rw [sm_congr s (g := fun i => sm (fun t => rr m t i) m.length) fun i hi => S_get h hi, sm_swap, sm_congr m.length (g := fun _ => (s : Int) * (s + 1)) fun t ht => (row_sum h ht).1, sm_const]
  have e1 : sm (fun i => sq ((s : Int) * (sumsL s m).getD i 0 - sm (fun i => (sumsL s m).getD i 0) s)) s = sm (fun i => sq (sm (fun t => (s : Int) * rr m t i - s * (s + 1)) m.length)) s := sm_congr s fun i hi => by
    rw [eT, S_get h hi, sm_aff]
  rw [e1]
  have h2 := sm_le s (f := fun i => sq (sm (fun t => (s : Int) * rr m t i - s * (s + 1)) m.length)) (g := fun i => m.length * sm (fun t => sq ((s : Int) * rr m t i - s * (s + 1))) m.length) fun i _ => cauchy _ _
  rw [sm_mul, sm_swap (fun t i => sq ((s : Int) * rr m t i - s * (s + 1)))] at h2
  have h3 := sm_le m.length (f := fun t => sm (fun i => sq ((s : Int) * rr m t i - s * (s + 1))) s) (g := fun _ => D s) fun t ht => (row_sum h ht).2
  rw [sm_const] at h3
  have h4 := Int.mul_le_mul_of_nonneg_left h3 (show (0 : Int) ≤ m.length by omega)
  omega
theorem far_nonneg (s : Nat) (x : List Int) : 0 ≤ spr s x := sm_nonneg _ fun i _ => sq_nonneg _
/-- What the law's last loop sums up. -/
def offW (s n i : Int) : Int := wrap64 ((wrap64 ((wrap64 ((wrap64 ((wrap64 (s * 2)) * i)) * n)) - (wrap64 ((wrap64 (s * (wrap64 (s + 1)))) * n)))) * (wrap64 ((wrap64 ((wrap64 ((wrap64 (s * 2)) * i)) * n)) - (wrap64 ((wrap64 (s * (wrap64 (s + 1)))) * n)))))
def limW (s n : Int) : Nat → Int
  | 0 => 0
  | j + 1 => wrap64 (limW s n j + offW s n ((j : Int) + 1))
theorem lim_all : ((List.range 7).all fun s => (List.range 6).all fun n => s == 0 || limW s n s == (n : Int) * ((n : Int) * D s)) = true := by decide +kernel
theorem lim_at (s n : Nat) (h1 : 1 ≤ s) (h6 : s ≤ 6) (hn : n ≤ 5) : limW s n s = (n : Int) * ((n : Int) * D s) := by
  have h := List.all_eq_true.1 (List.all_eq_true.1 lim_all s (List.mem_range.2 (by omega))) n (List.mem_range.2 (by omega))
  rw [Bool.or_eq_true, beq_iff_eq, beq_iff_eq] at h
  rcases h with h | h
  · omega
  · exact h
theorem order_ok {s : Nat} {m : List (List Int)} (h : Good s m) : orderB s (Sum.insI (sumsL s m) (SumW.iota s) (s - 1)) = true := by
  have H := SumW.srt_all (SumW.sums_bd s m (by have := h.s6; omega) (by have := h.n5; omega)) h.s1 (s - 1) (by have := h.s1; omega)
  generalize Sum.insI (sumsL s m) (SumW.iota s) (s - 1) = L at H
  refine orderB_yes fun j hj => ?_
  rw [H.len] at hj
  unfold ordAt
  obtain ⟨z, hz, hzs⟩ := H.bnd j hj
  rw [Bool.and_eq_true, hz, w_id (x := (s : Int) - 1) (by omega) (by have := h.s6; omega)]
  refine ⟨inB_yes (by omega) (by omega), ?_⟩
  rw [Bool.not_eq_true']
  cases hc : (L.take j).contains (z : Int)
  · rfl
  · obtain ⟨a, ha, e⟩ := (SumW.mem_take H.len (show j ≤ s by omega) (z : Int)).1 hc
    have h1 := H.srt a j ha (by omega)
    rw [e, hz] at h1
    exact (SumW.lt_asymm h1 h1).elim
abbrev due (s : Nat) (m : List (List Int)) : List (List Int) := ranksL s m m.length
theorem due_row {s : Nat} {m : List (List Int)} (h : Good s m) {t : Nat} (ht : t < m.length) : rd_L2 (due s m) (t : Int) = rks s (m.getD t []) s := ranksL_get s m m.length t ht
theorem due_at {s : Nat} {m : List (List Int)} (h : Good s m) {t i : Nat} (ht : t < m.length) (hi : i < s) : rd (rd_L2 (due s m) (t : Int)) (i : Int) = rr m t i := by
  rw [due_row h ht]
  exact rks_get h ht hi
theorem l2_ok {s : Nat} {m : List (List Int)} (h : Good s m) (K L : List Int) (far : Int) {t i : Nat} (ht : t < m.length) (hi : i < s) (X : List Int) (y : Int)
    (hn : Ev (fun k => laws_FnRanks.l1 k s m (due s m) K L far X t y ((i + 1 : Nat) : Int)) true) : Ev (fun k => laws_FnRanks.l2 k s m (due s m) K L far X t y i 0) true := by
  have h6 := h.s6
  refine ev_steps (F := fun k j (_ : Unit) => laws_FnRanks.l2 k s m (due s m) K L far X t y i j) 0 s (Nat.zero_le _) (fun _ => ()) true (fun j _ hj hh => ?_) ?_
  · refine Ev.step (fun k => laws_FnRanks.l2.eq_2 _ _ _ _ _ _ _ _ _ _ _ k) ?_
    have hm : rd_L2 m (t : Int) = m.getD t [] := rfl
    have hml := h.row t ht
    have hdl : (rd_L2 (due s m) (t : Int)).length = s := by rw [due_row h ht, rks_length]
    have hdn : (due s m).length = m.length := ranksL_length s m m.length
    have b1 := rr_bd h ht hi
    have e1 : ((decide (rd (m.getD t []) (i : Int) > rd (m.getD t []) (j : Int))) != (decide (rr m t i < rr m t j))) = false := by
      have := R_lt (mem_at h ht hi) (mem_at h ht hj)
      rw [bne_eq_false_iff_eq, Bool.eq_iff_iff, decide_eq_true_eq, decide_eq_true_eq]
      exact this
    have w2 : wrap64 (2 * (s : Int)) = 2 * (s : Int) := w_id (by omega) (by omega)
    simp only [hm, hml, hdl, hdn, due_at h ht hi, due_at h ht hj, e1, w2, if_pos (show (j : Int) < (s : Int) by omega), if_pos (show (i : Int) < (s : Int) by omega), if_pos (show (0 : Int) ≤ (t : Int) by omega), if_pos (show (0 : Int) ≤ (i : Int) by omega), if_pos (show (0 : Int) ≤ (j : Int) by omega), if_pos (show (t : Int) < (m.length : Int) by omega), Bool.false_eq_true, if_false, if_neg (show ¬ rr m t i < 2 by omega), if_neg (show ¬ rr m t i > 2 * (s : Int) by omega), w_i hj (show s ≤ 4611686018427387904 by omega)]
    exact hh
  · refine Ev.step (fun k => laws_FnRanks.l2.eq_2 _ _ _ _ _ _ _ _ _ _ _ k) ?_
    simp only [if_neg (show ¬ ((s : Int) < (s : Int)) by omega), w_i hi (show s ≤ 4611686018427387904 by omega)]
    exact hn
theorem l1_ok {s : Nat} {m : List (List Int)} (h : Good s m) (K L : List Int) (far : Int) {t : Nat} (ht : t < m.length)
    (hn : Ev (fun k => laws_FnRanks.l0 k s m (due s m) K L far (stF (add1 s m) (List.replicate s 0) (t + 1)) ((t + 1 : Nat) : Int)) true) :
    Ev (fun k => laws_FnRanks.l1 k s m (due s m) K L far (stF (add1 s m) (List.replicate s 0) t) t 0 0) true := by
  have h6 := h.s6
  have hxl : (stF (add1 s m) (List.replicate s 0) t).length = s := add1_len (by simp) m t
  have hnx : stF (add1 s m) (List.replicate s 0) (t + 1) = stF (add2 (rks s (m.getD t []) s)) (stF (add1 s m) (List.replicate s 0) t) s := stF_succ _ _ _
  rw [hnx] at hn
  generalize stF (add1 s m) (List.replicate s 0) t = X at hxl hn ⊢
  refine ev_steps (F := fun k i (q : List Int × Int) => laws_FnRanks.l1 k s m (due s m) K L far q.1 t q.2 i) 0 s (Nat.zero_le _) (fun i => (stF (add2 (rks s (m.getD t []) s)) X i, sm (fun i => rr m t i) i)) true (fun i _ hi hh => ?_) ?_
  · refine Ev.step (fun k => laws_FnRanks.l1.eq_2 _ _ _ _ _ _ _ _ _ _ k) ?_
    have hdl : (rd_L2 (due s m) (t : Int)).length = s := by rw [due_row h ht, rks_length]
    have hdn : (due s m).length = m.length := ranksL_length s m m.length
    have hal : (stF (add2 (rks s (m.getD t []) s)) X i).length = s := add2_len hxl _ i
    have hset : (stF (add2 (rks s (m.getD t []) s)) X i).set i (wrap64 (rd (stF (add2 (rks s (m.getD t []) s)) X i) (i : Int) + rr m t i)) = stF (add2 (rks s (m.getD t []) s)) X (i + 1) := by
      rw [stF_succ]
      show _ = (stF (add2 (rks s (m.getD t []) s)) X i).set i (wrap64 ((stF (add2 (rks s (m.getD t []) s)) X i).getD i 0 + (rks s (m.getD t []) s).getD i 0))
      rw [rks_get h ht hi]
      rfl
    have hb := sm_bd (fun i => rr m t i) 12 i fun j hj => by have := rr_bd h ht (show j < s by omega); omega
    have hb2 := rr_bd h ht hi
    have hsum : wrap64 (sm (fun i => rr m t i) i + rr m t i) = sm (fun i => rr m t i) (i + 1) := by rw [w_id (by omega) (by omega), sm]
    simp only [hdl, hdn, hal, due_at h ht hi, Int.toNat_natCast, hset, hsum, if_pos (show (i : Int) < (s : Int) by omega), if_pos (show (0 : Int) ≤ (t : Int) by omega), if_pos (show (0 : Int) ≤ (i : Int) by omega), if_pos (show (t : Int) < (m.length : Int) by omega)]
    exact l2_ok h K L far ht hi _ _ hh
  · refine Ev.step (fun k => laws_FnRanks.l1.eq_2 _ _ _ _ _ _ _ _ _ _ k) ?_
    have w1 : wrap64 ((s : Int) + 1) = (s : Int) + 1 := w_id (by omega) (by omega)
    have hp : (s : Int) * (s + 1) ≤ 6 * 7 := Int.mul_le_mul (by omega) (by omega) (by omega) (by omega)
    have hp0 : 0 ≤ (s : Int) * (s + 1) := Int.mul_nonneg (by omega) (by omega)
    have w2 : wrap64 ((s : Int) * ((s : Int) + 1)) = (s : Int) * (s + 1) := w_id (by omega) (by omega)
    simp only [w1, w2, (row_sum h ht).1, if_true, if_neg (show ¬ ((s : Int) < (s : Int)) by omega), w_i ht (show m.length ≤ 4611686018427387904 by have := h.n5; omega)]
    exact hn
theorem l4_ok (s n : Nat) (far : Int) (hs : s ≤ 8) (hf : far ≤ limW s n s) : Ev (fun k => laws_FnRanks.l4 k s far n 0 1) true := by
  have key : ∀ d j : Nat, j + d = s → Ev (fun k => laws_FnRanks.l4 k s far n (limW s n j) ((j : Int) + 1)) true := by
    intro d
    induction d with
    | zero =>
      intro j hj
      obtain rfl : j = s := by omega
      refine Ev.step (fun k => laws_FnRanks.l4.eq_2 _ _ _ _ _ k) ?_
      simp only [if_neg (show ¬ ((j : Int) + 1 ≤ (j : Int)) by omega), decide_eq_true hf]
      exact Ev.now _
    | succ d ih =>
      intro j hj
      refine Ev.step (fun k => laws_FnRanks.l4.eq_2 _ _ _ _ _ k) ?_
      have hw : wrap64 ((j : Int) + 1 + 1) = ((j + 1 : Nat) : Int) + 1 := by rw [w_id (by omega) (by omega)]; omega
      simp only [if_pos (show (j : Int) + 1 ≤ (s : Int) by omega), hw]
      exact ih (j + 1) (by omega)
  exact key s 0 (by omega)
theorem l3_ok {s : Nat} {m : List (List Int)} (h : Good s m) (far : Int) (hf : far ≤ limW s m.length s) :
    Ev (fun k => laws_FnRanks.l3 k s m (sumsL s m) (Sum.insI (sumsL s m) (SumW.iota s) (s - 1)) far 1) true := by
  have h6 := h.s6
  have h1 := h.s1
  have H := SumW.srt_all (SumW.sums_bd s m (by omega) (by have := h.n5; omega)) h.s1 (s - 1) (by omega)
  have hl := sumsL_len s m
  generalize Sum.insI (sumsL s m) (SumW.iota s) (s - 1) = L at H ⊢
  generalize sumsL s m = S at H hl ⊢
  have hLl := H.len
  refine ev_steps (F := fun k i (_ : Unit) => laws_FnRanks.l3 k s m S L far i) 1 s (by omega) (fun _ => ()) true (fun i hi1 hi hh => ?_) ?_
  · refine Ev.step (fun k => laws_FnRanks.l3.eq_2 _ _ _ _ _ _ k) ?_
    have hw : wrap64 ((i : Int) - 1) = ((i - 1 : Nat) : Int) := by rw [w_id (by omega) (by omega)]; omega
    obtain ⟨a, ha, has⟩ := H.bnd (i - 1) (by omega)
    obtain ⟨b, hb, hbs⟩ := H.bnd i hi
    have ra : rd L ((i - 1 : Nat) : Int) = (a : Int) := ha
    have rb : rd L (i : Int) = (b : Int) := hb
    have hlt := H.srt (i - 1) i (by omega) (by omega)
    rw [ha, hb] at hlt
    unfold SumW.lt SumW.K at hlt
    rw [Int.toNat_natCast, Int.toNat_natCast] at hlt
    have sa : rd S (a : Int) = S.getD a 0 := rfl
    have sb : rd S (b : Int) = S.getD b 0 := rfl
    simp only [hw, ra, rb, sa, sb, hLl, hl, if_pos (show (i : Int) < (s : Int) by omega), if_pos (show (0 : Int) ≤ ((i - 1 : Nat) : Int) by omega), if_pos (show ((i - 1 : Nat) : Int) < (s : Int) by omega), if_pos (show (0 : Int) ≤ (i : Int) by omega), if_pos (show (0 : Int) ≤ (a : Int) by omega), if_pos (show (a : Int) < (s : Int) by omega), if_pos (show (0 : Int) ≤ (b : Int) by omega), if_pos (show (b : Int) < (s : Int) by omega), if_neg (show ¬ S.getD a 0 > S.getD b 0 by omega), w_i hi (show s ≤ 4611686018427387904 by omega)]
    by_cases he : S.getD a 0 = S.getD b 0
    · simp only [if_pos he, if_neg (show ¬ (a : Int) > (b : Int) by omega)]
      exact hh
    · simp only [if_neg he]
      exact hh
  · refine Ev.step (fun k => laws_FnRanks.l3.eq_2 _ _ _ _ _ _ k) ?_
    simp only [if_neg (show ¬ ((s : Int) < (s : Int)) by omega)]
    exact l4_ok s m.length far (by omega) hf
theorem j1_ok {s : Nat} {m : List (List Int)} (h : Good s m) (far : Int) (hf : far ≤ limW s m.length s) :
    Ev (fun k => laws_FnRanks.j1 k s m (due s m) (sumsL s m) (Sum.insI (sumsL s m) (SumW.iota s) (s - 1)) far false) true := by
  have h6 := h.s6
  have h5 := h.n5
  refine Ev.step (fun k => laws_FnRanks.j1.eq_2 _ _ _ _ _ _ _ k) ?_
  simp only [Bool.false_eq_true, if_false, if_pos (show (0 : Int) ≤ (s : Int) by omega), Int.toNat_natCast, if_pos (show s ≤ 35184372088832 by omega)]
  refine ev_steps (F := fun k t X => laws_FnRanks.l0 k s m (due s m) (sumsL s m) (Sum.insI (sumsL s m) (SumW.iota s) (s - 1)) far X t) 0 m.length (Nat.zero_le _) (fun t => stF (add1 s m) (List.replicate s 0) t) true (fun t _ ht hh => ?_) ?_
  · refine Ev.step (fun k => laws_FnRanks.l0.eq_2 _ _ _ _ _ _ _ _ k) ?_
    simp only [show (due s m).length = m.length from ranksL_length s m m.length, if_pos (show (t : Int) < (m.length : Int) by omega)]
    exact l1_ok h _ _ far ht hh
  · refine Ev.step (fun k => laws_FnRanks.l0.eq_2 _ _ _ _ _ _ _ _ k) ?_
    simp only [show (due s m).length = m.length from ranksL_length s m m.length, if_neg (show ¬ ((m.length : Int) < (m.length : Int)) by omega)]
    refine Ev.bind (Same.numbers (sumsL s m) (by rw [sumsL_len]; omega)) ?_
    simp only [if_true]
    exact l3_ok h far hf
theorem FnRanks : SayFnRanks.Pure := by
  intro a b ha ca hb cb
  refine Ev.rounds (?_ : Ev (fun k => laws_FnRanks.f k a b) true)
  have j0t : Ev (fun k => laws_FnRanks.j0 k a true) true := by
    refine Ev.step (fun k => laws_FnRanks.j0.eq_2 _ _ k) ?_
    simp only [if_true]
    exact Ev.now _
  have j0f : Ev (fun k => laws_FnRanks.j0 k a false) true := by
    refine Ev.step (fun k => laws_FnRanks.j0.eq_2 _ _ k) ?_
    simp only [Bool.false_eq_true, if_false]
    obtain ⟨s, m, hs, hm, he⟩ := Draw.marks_t (l := a) (fun x hx => ca x hx)
    have h := good_of hs hm
    have hB := h.marksB
    have h6 := h.s6
    have h5 := h.n5
    have hx : ∀ x ∈ m, (x.length : Int) ≤ 1048576 := fun x hx => by have := (hm.2 x hx).1; omega
    refine Ev.bind he ?_
    have hok := l07Ok_tells (s : Int) m (by omega) hx
    rw [hB] at hok
    have hbd := SumW.sums_bd s m (by omega) (by omega)
    have hsl := sumsL_len s m
    have g1 : Ev (fun k => impl_RanksOf.f k s m) (due s m, 0) := by
      unfold impl_RanksOf.f impl_ValidMarks.f
      simp only [Option.bind_some, hB, if_true]
      refine ev_steps (F := fun k i (x : List (List Int)) => impl_RanksOf.l0 k x m m.length i) 0 m.length (Nat.zero_le _) (fun i => ranksL s m i) (due s m, 0) (fun i _ hi hh => ?_) ?_
      · refine Ev.step (fun k => impl_RanksOf.l0.eq_2 _ _ _ _ k) ?_
        simp only [rdrL_nat, if_pos (show (i : Int) < (m.length : Int) by omega), if_pos (show (0 : Int) ≤ (i : Int) by omega)]
        refine Ev.bind (impl_ranks_tells s _ (by omega) (h.row i hi)) ?_
        simp only [if_pos (show (ranksL s m i).length < 5864062014805 by rw [ranksL_length]; omega), ranksL_snoc, w_i hi (show m.length ≤ 4611686018427387904 by omega)]
        exact hh
      · refine Ev.step (fun k => impl_RanksOf.l0.eq_2 _ _ _ _ k) ?_
        simp only [if_neg (show ¬ ((m.length : Int) < (m.length : Int)) by omega)]
        exact Ev.now _
    have g2 : Ev (fun k => spec_RanksOf.f k s m) (due s m, 0) := by
      unfold spec_RanksOf.f
      refine Ev.bind hok ?_
      simp only [if_true]
      exact Ev.bind (spec_ranks_tells s m (by omega) (by omega) h.row) (Ev.now _)
    have g3 : Ev (fun k => impl_RankSums.f k s m) (sumsL s m, 0) := by
      unfold impl_RankSums.f impl_ValidMarks.f
      simp only [Option.bind_some, hB, if_true]
      exact Ev.bind (impl_sums_tells s m (by omega) (by omega) h.row) (Ev.now _)
    have g4 : Ev (fun k => spec_RankSums.f k s m) (sumsL s m, 0) := by
      unfold spec_RankSums.f
      refine Ev.bind hok ?_
      simp only [if_true]
      exact Ev.bind (spec_sums_tells s m (by omega) (by omega) h.row) (Ev.now _)
    have g5 : impl_SumOrder.f s m = some (Sum.insI (sumsL s m) (SumW.iota s) (s - 1), 0) := by
      unfold impl_SumOrder.f
      rw [if_pos hB, Int.toNat_natCast]
    have g6 : Ev (fun k => spec_SumOrder.f k s m) (Sum.insI (sumsL s m) (SumW.iota s) (s - 1), 0) := by
      unfold spec_SumOrder.f
      simp only [Option.bind_some]
      refine Ev.bind hok ?_
      simp only [if_true]
      exact Ev.bind (spec_sums_tells s m (by omega) (by omega) h.row) (SumW.spec_order hbd h.s1 (by omega) hsl)
    have g7 : Ev (fun k => impl_SpreadOf.f k s m) (spr s (sumsL s m), 0) := by
      unfold impl_SpreadOf.f impl_ValidMarks.f
      simp only [Option.bind_some, hB, if_true]
      exact Ev.bind (impl_sums_tells s m (by omega) (by omega) h.row) (impl_spread (by omega) (by omega) hbd)
    have g8 : Ev (fun k => spec_SpreadOf.f k s m) (spr s (sumsL s m), 0) := by
      unfold spec_SpreadOf.f
      refine Ev.bind hok ?_
      simp only [if_true]
      exact Ev.bind (spec_sums_tells s m (by omega) (by omega) h.row) (spec_spread (by omega) (by omega) hbd)
    have hLl : (Sum.insI (sumsL s m) (SumW.iota s) (s - 1)).length = s := by rw [Sum.insI_length, SumW.iota_length]
    have g9 : impl_IsOrder.f s (Sum.insI (sumsL s m) (SumW.iota s) (s - 1)) = some true := by
      unfold impl_IsOrder.f
      rw [if_pos (by omega), hLl, order_ok h, inB_yes (by omega) (by omega)]
      simp
    have hfar := far_le h
    have hlim := lim_at s m.length h.s1 h6 h5
    have hf0 := far_nonneg s (sumsL s m)
    refine Ev.bind g1 (Ev.bind g2 (Ev.bind g3 (Ev.bind g4 ?_)))
    simp only [g5, Option.bind_some]
    refine Ev.bind g6 (Ev.bind g7 (Ev.bind g8 ?_))
    simp only [if_true]
    refine Ev.bind (Same.tables (due s m) (by rw [ranksL_length]; omega) (fun i hi => by rw [ranksL_length] at hi; rw [ranksL_get s m m.length i hi, rks_length]; omega)) ?_
    simp only [if_true, show ((due s m).length : Int) = (m.length : Int) by rw [ranksL_length]]
    refine Ev.bind (Same.numbers (sumsL s m) (by omega)) ?_
    simp only [if_true, show ((sumsL s m).length : Int) = (s : Int) by rw [hsl]]
    refine Ev.bind (Same.numbers (Sum.insI (sumsL s m) (SumW.iota s) (s - 1)) (by omega)) ?_
    simp only [if_true, g9, Option.bind_some, decide_eq_false (show ¬ spr s (sumsL s m) < 0 by omega)]
    exact j1_ok h _ (by rw [hlim]; exact hfar)
  unfold laws_FnRanks.f laws_f6big.f
  simp only [Option.bind_some]
  by_cases c1 : decide ((a.length : Int) > 4096) = true
  · simp only [if_pos c1]
    exact j0t
  · simp only [if_neg c1]
    cases decide ((b.length : Int) > 4096)
    · exact j0f
    · exact j0t
end Go.Proofs.Ytepokbejmnkogaa.PureFnRanks
