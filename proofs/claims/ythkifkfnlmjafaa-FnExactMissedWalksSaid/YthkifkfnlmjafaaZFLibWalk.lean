import Derived.Test.YthkifkfnlmjafaaZPl
import Derived.Test.YthkifkfnlmjafaaZFVRow
import Derived.Test.YthkifkfnlmjafaaZFVWalk
import Derived.Test.YthkifkfnlmjafaaZFWalked
import Derived.Test.YthkifkfnlmjafaaZG2
import Derived.Test.YthkifkfnlmjafaaZG3
import Derived.Test.YthkifkfnlmjafaaZG3
import Derived.Test.YthkifkfnlmjafaaZG2
import Derived.Test.YthkifkfnlmjafaaZG3
import Derived.Test.YthkifkfnlmjafaaZG3
import Derived.Test.YthkifkfnlmjafaaZG3
import Derived.Test.YthkifkfnlmjafaaZG3
import Derived.Test.YthkifkfnlmjafaaZG3
import Derived.Test.YthkifkfnlmjafaaZG1
namespace Go.Proofs.Ythkifkfnlmjafaa.G
open Go.RowKit Go.Proofs.YthkifkfnlmjafaaW.PrintWords Go.Proofs.YthkifkfnlmjafaaW.PrintLast Go.Proofs.YthkifkfnlmjafaaW.PrintMore
attribute [local go_sem] max2_int min2_int max_two min_two max_three min_three max_four min_four
set_option linter.unusedVariables false
set_option linter.unusedSimpArgs false
open Go.Proofs.Ythkifkfnlmjafaa.Wk Go.Proofs.Ythkifkfnlmjafaa.Pl
namespace LW
abbrev W := S53
theorem tmod8 (n : Int) : Int.tmod n 8 = if 0 ≤ n then n % 8 else -((-n) % 8) := by
  by_cases h : 0 ≤ n
  · rw [if_pos h, Int.tmod_eq_emod_of_nonneg h]
  · rw [if_neg h]
    have := Int.neg_tmod (-n) 8
    rw [Int.neg_neg] at this
    rw [this, Int.tmod_eq_emod_of_nonneg (by omega)]
theorem tmod_pos {a b : Int} (h : 0 ≤ a) : Int.tmod a b = a % b := Int.tmod_eq_emod_of_nonneg h
theorem tdiv_pos {a b : Int} (h : 0 ≤ a) : Int.tdiv a b = a / b := Int.tdiv_eq_ediv_of_nonneg h
theorem eighth (n : Int) : (Int.tmod (wrap64 ((Int.tmod n 8) + 8)) 8) % 256 = n % 8 := by
  have h1 : 0 ≤ Int.tmod n 8 + 8 ∧ Int.tmod n 8 + 8 ≤ 15 := by rw [tmod8]; split <;> omega
  rw [w_id (by omega) (by omega), tmod_pos h1.1, tmod8]
  split <;> omega
def rowF (n : Nat) (g : Nat → Int) : List Int := (List.range n).map g
theorem rowF_len (n : Nat) (g : Nat → Int) : (rowF n g).length = n := by simp [rowF]
theorem rowF_get {n : Nat} (g : Nat → Int) {i : Nat} (h : i < n) : (rowF n g).getD i 0 = g i := by simp [rowF, List.getD, h]
theorem rowF_rd {n : Nat} (g : Nat → Int) {i : Nat} (h : i < n) : rd (rowF n g) (i : Int) = g i := rowF_get g h
theorem rowF_self (l : List Int) : rowF l.length (fun i => l.getD i 0) = l := by
  have := map_range l 0 id
  simpa [rowF] using this
theorem rowF_congr {n : Nat} {f g : Nat → Int} (h : ∀ i, i < n → f i = g i) : rowF n f = rowF n g := List.map_congr_left fun i hi => h i (List.mem_range.1 hi)
theorem rowF_set {n : Nat} (g : Nat → Int) (p : Nat) (v : Int) : (rowF n g).set p v = rowF n fun i => if i = p then v else g i := by
  apply List.ext_getElem?
  intro j
  by_cases hj : j < n
  · rw [List.getElem?_set]
    by_cases e : p = j
    · subst e
      simp [rowF, hj]
    · rw [if_neg e]
      simp [rowF, hj, Ne.symm e]
  · rw [List.getElem?_eq_none (by simp [rowF]; omega), List.getElem?_eq_none (by simp [rowF]; omega)]
theorem rowF_rep (n : Nat) (v : Int) : List.replicate n v = rowF n fun _ => v := by
  apply List.ext_getElem?
  intro j
  by_cases hj : j < n <;> simp [rowF, hj]
structure GoodW (n : Nat) (x : W) : Prop where
  f0 : 0 ≤ x.f0 ∧ x.f0 ≤ 10000
  f1 : 1 ≤ x.f1 ∧ x.f1 ≤ 100
  f2 : 0 ≤ x.f2 ∧ x.f2 < n
  f3 : 0 ≤ x.f3 ∧ x.f3 ≤ 60
  f4 : 1 ≤ x.f4 ∧ x.f4 ≤ 60
  f5 : -7 ≤ x.f5 ∧ x.f5 ≤ 7
def SmallW (x : W) : Prop := (-32768 ≤ x.f0 ∧ x.f0 ≤ 32767) ∧ (-32768 ≤ x.f1 ∧ x.f1 ≤ 32767) ∧ (-32768 ≤ x.f2 ∧ x.f2 ≤ 32767) ∧ (-32768 ≤ x.f3 ∧ x.f3 ≤ 32767) ∧ (-32768 ≤ x.f4 ∧ x.f4 ≤ 32767) ∧ (-128 ≤ x.f5 ∧ x.f5 ≤ 127)
theorem good_of {n : Nat} (hn : n ≤ 1000) {x : W} (hs : SmallW x) (h : wB n x = true) : GoodW n x := by
  obtain ⟨h0, h1, h2, h3, h4, h5⟩ := hs
  unfold wB walkB at h
  rw [w_id (x := x.f0) (by omega) (by omega), w_id (x := x.f1) (by omega) (by omega), w_id (x := x.f2) (by omega) (by omega), w_id (x := x.f3) (by omega) (by omega), w_id (x := x.f4) (by omega) (by omega), w_id (x := x.f5) (by omega) (by omega), w_id (x := (n : Int) - 1) (by omega) (by omega)] at h
  simp only [Bool.and_eq_true, inB_iff] at h
  obtain ⟨g0, g1, g2, g3, g4, g5⟩ := h
  exact ⟨g0, g1, by omega, g3, g4, g5⟩
theorem good_B {n : Nat} (hn : n ≤ 1000) {x : W} (h : GoodW n x) : wB n x = true := by
  obtain ⟨h0, h1, h2, h3, h4, h5⟩ := h
  unfold wB walkB
  rw [w_id (x := x.f0) (by omega) (by omega), w_id (x := x.f1) (by omega) (by omega), w_id (x := x.f2) (by omega) (by omega), w_id (x := x.f3) (by omega) (by omega), w_id (x := x.f4) (by omega) (by omega), w_id (x := x.f5) (by omega) (by omega), w_id (x := (n : Int) - 1) (by omega) (by omega)]
  simp only [Bool.and_eq_true, inB_iff]
  exact ⟨h0, h1, by omega, h3, h4, h5⟩
def pl (n : Nat) (x : W) (k : Nat) : Int := (x.f2 + (k : Int) * x.f3) % (n : Int)
def vN (n : Nat) (x : W) : Nat → Nat → Int
  | 0, _ => 0
  | j + 1, i => if (i : Int) = pl n x j then vN n x j i + 1 else vN n x j i
def vis (n : Nat) (x : W) (i : Nat) : Int := vN n x x.f4.toNat i
theorem vN_bd (n : Nat) (x : W) : ∀ j i, 0 ≤ vN n x j i ∧ vN n x j i ≤ j
  | 0, _ => by simp [vN]
  | j + 1, i => by
    have := vN_bd n x j i
    rw [vN]
    split <;> omega
theorem vis_bd {n : Nat} {x : W} (h : GoodW n x) (i : Nat) : 0 ≤ vis n x i ∧ vis n x i ≤ 60 := by
  have := vN_bd n x x.f4.toNat i
  have := h.f4
  unfold vis
  omega
theorem pl_bd {n : Nat} (hn : 1 ≤ n) (x : W) (k : Nat) : 0 ≤ pl n x k ∧ pl n x k < n := ⟨Int.emod_nonneg _ (by omega), Int.emod_lt_of_pos _ (by omega)⟩
theorem step_bd {n : Nat} {x : W} (h : GoodW n x) {k : Nat} (hk : k ≤ 60) : 0 ≤ (k : Int) * x.f3 ∧ (k : Int) * x.f3 ≤ 3600 :=
  ⟨Int.mul_nonneg (by omega) h.f3.1, by have := Int.mul_le_mul (show (k : Int) ≤ 60 by omega) h.f3.2 h.f3.1 (by omega); omega⟩
theorem vN_set {n : Nat} (hn : 1 ≤ n) (x : W) (j : Nat) (hj : j ≤ 60) : (rowF n (vN n x j)).set (pl n x j).toNat (wrap64 (rd (rowF n (vN n x j)) (pl n x j) + 1)) = rowF n (vN n x (j + 1)) := by
  have hp := pl_bd hn x j
  obtain ⟨p, hp2⟩ := Int.eq_ofNat_of_zero_le hp.1
  have hv := vN_bd n x j p
  rw [hp2] at hp ⊢
  rw [rowF_rd _ (by omega), w_id (by omega) (by omega), Int.toNat_natCast, rowF_set]
  refine rowF_congr fun i hi => ?_
  rw [vN, hp2]
  by_cases e : i = p
  · subst e
    simp
  · rw [if_neg e, if_neg (by omega)]
theorem impl_visits_t {n : Nat} (hn : 1 ≤ n) (hn2 : n ≤ 60) {x : W} (h : GoodW n x) : Ev (fun k => impl_Walker_visits.f k x.f0 x.f1 x.f2 x.f3 x.f4 x.f5 n) (rowF n (vis n x)) := by
  unfold impl_Walker_visits.f
  obtain ⟨c, hc⟩ := Int.eq_ofNat_of_zero_le (show 0 ≤ x.f4 by have := h.f4; omega)
  have h4 := h.f4
  have w4 : wrap64 x.f4 = (c : Int) := by rw [w_id (by omega) (by omega)]; exact hc
  simp only [if_pos (show (0 : Int) ≤ (n : Int) by omega), Int.toNat_natCast, if_pos (show n ≤ 35184372088832 by omega), w4, rowF_rep]
  refine ev_steps (F := fun k i (l : List Int) => impl_Walker_visits.l0 k n l c i x.f0 x.f1 x.f2 x.f3 x.f4 x.f5) 0 c (Nat.zero_le _) (fun i => rowF n (vN n x i)) (rowF n (vis n x)) (fun i _ hi hh => ?_) ?_
  · refine Ev.step (fun k => impl_Walker_visits.l0.eq_2 _ _ _ _ _ _ _ _ _ _ k) ?_
    have hs := step_bd h (show i ≤ 60 by omega)
    have w2 : wrap64 x.f2 = x.f2 := w_id (by have := h.f2; omega) (by have := h.f2; omega)
    have w3 : wrap64 x.f3 = x.f3 := w_id (by have := h.f3; omega) (by have := h.f3; omega)
    have wk : wrap64 ((i : Int) * x.f3) = (i : Int) * x.f3 := w_id (by omega) (by omega)
    have ws : wrap64 (x.f2 + (i : Int) * x.f3) = x.f2 + (i : Int) * x.f3 := w_id (by have := h.f2; omega) (by have := h.f2; omega)
    have et : Int.tmod (x.f2 + (i : Int) * x.f3) (n : Int) = pl n x i := tmod_pos (by have := h.f2; omega)
    have hp := pl_bd hn x i
    simp only [w2, w3, wk, ws, et, rowF_len, if_pos (show (i : Int) < (c : Int) by omega), if_neg (show ¬ (n : Int) = 0 by omega), if_pos hp.1, if_pos hp.2, vN_set hn x i (by omega), w_i hi (show c ≤ 4611686018427387904 by omega)]
    exact hh
  · refine Ev.step (fun k => impl_Walker_visits.l0.eq_2 _ _ _ _ _ _ _ _ _ _ k) ?_
    simp only [if_neg (show ¬ ((c : Int) < (c : Int)) by omega)]
    have : rowF n (vN n x c) = rowF n (vis n x) := rowF_congr fun i _ => by unfold vis; rw [show x.f4.toNat = c by omega]
    rw [this]
    exact Ev.now _
theorem spec_visits_t {n : Nat} (hn : 1 ≤ n) (hn2 : n ≤ 60) {x : W} (h : GoodW n x) : Ev (fun k => spec_l05Visits.f k n x.f0 x.f1 x.f2 x.f3 x.f4 x.f5) (rowF n (vis n x)) := by
  unfold spec_l05Visits.f
  obtain ⟨c, hc⟩ := Int.eq_ofNat_of_zero_le (show 0 ≤ x.f4 by have := h.f4; omega)
  have h4 := h.f4
  have h3 := h.f3
  have h2 := h.f2
  have w2 : wrap64 x.f2 = pl n x 0 := by rw [w_id (by omega) (by omega)]; unfold pl; rw [show x.f2 + ((0 : Nat) : Int) * x.f3 = x.f2 by simp, Int.emod_eq_of_lt h2.1 h2.2]
  simp only [if_pos (show (0 : Int) ≤ (n : Int) by omega), Int.toNat_natCast, if_pos (show n ≤ 35184372088832 by omega), w2, rowF_rep]
  refine ev_steps (F := fun k i (q : List Int × Int) => spec_l05Visits.l0 k n q.1 q.2 i x.f0 x.f1 x.f2 x.f3 x.f4 x.f5) 0 c (Nat.zero_le _) (fun i => (rowF n (vN n x i), pl n x i)) (rowF n (vis n x)) (fun i _ hi hh => ?_) ?_
  · refine Ev.step (fun k => spec_l05Visits.l0.eq_2 _ _ _ _ _ _ _ _ _ _ k) ?_
    have hp := pl_bd hn x i
    have w3 : wrap64 x.f3 = x.f3 := w_id (by omega) (by omega)
    have ws : wrap64 (pl n x i + x.f3) = pl n x i + x.f3 := w_id (by omega) (by omega)
    have et : Int.tmod (pl n x i + x.f3) (n : Int) = pl n x (i + 1) := by
      rw [tmod_pos (by omega)]
      unfold pl
      rw [Int.emod_add_emod]
      congr 1
      rw [show ((i + 1 : Nat) : Int) = (i : Int) + 1 by omega, Int.add_mul]
      omega
    have wi : IntKind.i16.wrap ((i : Int) + 1) = ((i + 1 : Nat) : Int) := by simp [IntKind.wrap, IntKind.bits, IntKind.signed]; omega
    simp only [w3, ws, et, wi, rowF_len, if_pos (show (i : Int) < x.f4 by omega), if_neg (show ¬ (n : Int) = 0 by omega), if_pos hp.1, if_pos hp.2, vN_set hn x i (by omega)]
    exact hh
  · refine Ev.step (fun k => spec_l05Visits.l0.eq_2 _ _ _ _ _ _ _ _ _ _ k) ?_
    simp only [if_neg (show ¬ ((c : Int) < x.f4) by omega)]
    have : rowF n (vN n x c) = rowF n (vis n x) := rowF_congr fun i _ => by unfold vis; rw [show x.f4.toNat = c by omega]
    rw [this]
    exact Ev.now _
def sw (n : Nat) (c : W → Int) (i : Nat) : List W → Int
  | [] => 0
  | x :: r => c x * vis n x i * x.f5 + sw n c i r
theorem sw_snoc (n : Nat) (c : W → Int) (i : Nat) (x : W) : ∀ l, sw n c i (l ++ [x]) = sw n c i l + c x * vis n x i * x.f5
  | [] => by simp [sw]
  | y :: r => by rw [List.cons_append, sw, sw, sw_snoc n c i x r]; omega
theorem sw_add (n : Nat) (c d : W → Int) (i : Nat) : ∀ l, sw n (fun x => c x + d x) i l = sw n c i l + sw n d i l
  | [] => rfl
  | y :: r => by
    rw [sw, sw, sw, sw_add n c d i r, Int.add_mul, Int.add_mul]
    omega
theorem sw_congr (n : Nat) {c d : W → Int} (i : Nat) : ∀ l, (∀ x ∈ l, c x = d x) → sw n c i l = sw n d i l
  | [], _ => rfl
  | y :: r, h => by rw [sw, sw, sw_congr n i r fun x hx => h x (List.mem_cons_of_mem _ hx), h y List.mem_cons_self]
theorem term_bd {n : Nat} {x : W} (h : GoodW n x) (c : Int) (C : Int) (hC : 0 ≤ C) (h1 : -C ≤ c) (h2 : c ≤ C) (i : Nat) : (-(60 * C) ≤ c * vis n x i ∧ c * vis n x i ≤ 60 * C) ∧ -(420 * C) ≤ c * vis n x i * x.f5 ∧ c * vis n x i * x.f5 ≤ 420 * C := by
  have hv := vis_bd h i
  have h5 := h.f5
  have a1 : c * vis n x i ≤ 60 * C := by
    have e1 := Int.mul_le_mul_of_nonneg_right h2 hv.1
    have e2 := Int.mul_le_mul_of_nonneg_left hv.2 hC
    omega
  have a2 : -(60 * C) ≤ c * vis n x i := by
    have e1 := Int.mul_le_mul_of_nonneg_right h1 hv.1
    have e2 := Int.mul_le_mul_of_nonneg_left hv.2 hC
    rw [Int.neg_mul] at e1
    omega
  refine ⟨⟨a2, a1⟩, ?_⟩
  generalize c * vis n x i = y at a1 a2
  have e : x.f5 = -7 ∨ x.f5 = -6 ∨ x.f5 = -5 ∨ x.f5 = -4 ∨ x.f5 = -3 ∨ x.f5 = -2 ∨ x.f5 = -1 ∨ x.f5 = 0 ∨ x.f5 = 1 ∨ x.f5 = 2 ∨ x.f5 = 3 ∨ x.f5 = 4 ∨ x.f5 = 5 ∨ x.f5 = 6 ∨ x.f5 = 7 := by omega
  rcases e with e | e | e | e | e | e | e | e | e | e | e | e | e | e | e <;> rw [e] <;> omega
theorem sw_bd {n : Nat} (c : W → Int) (C : Int) (hC : 0 ≤ C) (i : Nat) : ∀ l : List W, (∀ x ∈ l, GoodW n x) → (∀ x ∈ l, -C ≤ c x ∧ c x ≤ C) → -(l.length * (420 * C)) ≤ sw n c i l ∧ sw n c i l ≤ l.length * (420 * C)
  | [], _, _ => by simp [sw]
  | x :: r, h, hc => by
    have h1 := sw_bd c C hC i r (fun y hy => h y (List.mem_cons_of_mem _ hy)) (fun y hy => hc y (List.mem_cons_of_mem _ hy))
    have h2 := term_bd (h x List.mem_cons_self) (c x) C hC (hc x List.mem_cons_self).1 (hc x List.mem_cons_self).2 i
    rw [sw, List.length_cons, show ((r.length + 1 : Nat) : Int) = r.length + 1 by omega, Int.add_mul]
    omega
def behindL (r : List Int) (l : List W) (c : W → Int) : List Int := rowF r.length fun i => (r.getD i 0 + sw r.length c i l) % 8
theorem walked_t (r : List Int) (l : List W) (a2 : CntF) (c : W → Int) (hr : 1 ≤ r.length ∧ r.length ≤ 60) (hl : l.length ≤ 8) (hg : ∀ x ∈ l, GoodW r.length x) (hr2 : ∀ i : Nat, 0 ≤ r.getD i 0 ∧ r.getD i 0 ≤ 255)
    (hc : ∀ x ∈ l, a2 x.f0 x.f1 x.f2 x.f3 x.f4 x.f5 = some (c x) ∧ -100000000 ≤ c x ∧ c x ≤ 100000000) : Ev (fun k => impl_walked.f k r l a2) (behindL r l c) := by
  unfold impl_walked.f
  simp only [if_pos (show (0 : Int) ≤ (r.length : Int) by omega), Int.toNat_natCast, if_pos (show r.length ≤ 35184372088832 by omega), rowF_rep]
  have hcb : ∀ x ∈ l, -100000000 ≤ c x ∧ c x ≤ 100000000 := fun x hx => (hc x hx).2
  have bd : ∀ t i, t ≤ l.length → -(8 * 42000000000) ≤ sw r.length c i (l.take t) ∧ sw r.length c i (l.take t) ≤ 8 * 42000000000 := by
    intro t i ht
    have h1 := sw_bd c 100000000 (by omega) i (l.take t) (fun x hx => hg x (List.mem_of_mem_take hx)) (fun x hx => hcb x (List.mem_of_mem_take hx))
    rw [List.length_take] at h1
    omega
  refine ev_steps (F := fun k t (s : List Int) => impl_walked.l0 k r a2 s [] l (l.length : Int) t) 0 l.length (Nat.zero_le _) (fun t => rowF r.length fun i => sw r.length c i (l.take t)) (behindL r l c) (fun t _ ht hh => ?_) ?_
  · refine Ev.step (fun k => impl_walked.l0.eq_2 _ _ _ _ _ _ _ k) ?_
    have hx := hg l[t] (List.getElem_mem ht)
    have hcx := hc l[t] (List.getElem_mem ht)
    have hrd : rd_T53 l (t : Int) = l[t] := getD_lt ht _
    simp only [hrd, hcx.1, Option.bind_some, if_pos (show (t : Int) < (l.length : Int) by omega), if_pos (show (0 : Int) ≤ (t : Int) by omega)]
    refine Ev.bind (impl_visits_t hr.1 hr.2 hx) ?_
    simp only [rowF_len]
    have hnext : ∀ i, sw r.length c i (l.take (t + 1)) = sw r.length c i (l.take t) + c l[t] * vis r.length l[t] i * l[t].f5 := fun i => by rw [List.take_succ_eq_append_getElem ht, sw_snoc]
    refine ev_steps (F := fun k j (s : List Int) => impl_walked.l1 k r a2 s [] (c l[t]) l (l.length : Int) (t : Int) (rowF r.length (vis r.length l[t])) (r.length : Int) j l[t].f0 l[t].f1 l[t].f2 l[t].f3 l[t].f4 l[t].f5) 0 r.length (Nat.zero_le _) (fun j => rowF r.length fun i => if i < j then sw r.length c i (l.take (t + 1)) else sw r.length c i (l.take t)) (behindL r l c) (fun j _ hj hh2 => ?_) ?_
    · refine Ev.step (fun k => impl_walked.l1.eq_2 _ _ _ _ _ _ _ _ _ _ _ _ _ _ _ _ _ k) ?_
      have tb := term_bd hx (c l[t]) 100000000 (by omega) hcx.2.1 hcx.2.2 j
      have b1 := bd t j (by omega)
      have w5 : wrap64 l[t].f5 = l[t].f5 := w_id (by have := hx.f5; omega) (by have := hx.f5; omega)
      have w6 : wrap64 (c l[t] * vis r.length l[t] j) = c l[t] * vis r.length l[t] j := w_id (by omega) (by omega)
      have w7 : wrap64 (c l[t] * vis r.length l[t] j * l[t].f5) = c l[t] * vis r.length l[t] j * l[t].f5 := w_id (by omega) (by omega)
      have w8 : wrap64 (sw r.length c j (l.take t) + c l[t] * vis r.length l[t] j * l[t].f5) = sw r.length c j (l.take (t + 1)) := by rw [hnext, w_id (by omega) (by omega)]
      simp only [rowF_len, rowF_rd _ hj, w5, w6, w7, if_neg (Nat.lt_irrefl j), w8, Int.toNat_natCast, rowF_set, if_pos (show (j : Int) < (r.length : Int) by omega), if_pos (show (0 : Int) ≤ (j : Int) by omega), w_i hj (show r.length ≤ 4611686018427387904 by omega)]
      have e : (rowF r.length fun i => if i = j then sw r.length c j (l.take (t + 1)) else if i < j then sw r.length c i (l.take (t + 1)) else sw r.length c i (l.take t)) = rowF r.length fun i => if i < j + 1 then sw r.length c i (l.take (t + 1)) else sw r.length c i (l.take t) := rowF_congr fun i _ => by
        by_cases e1 : i = j
        · subst e1; simp
        · by_cases e2 : i < j
          · rw [if_neg e1, if_pos e2, if_pos (by omega)]
          · rw [if_neg e1, if_neg e2, if_neg (by omega)]
      rw [e]
      exact hh2
    · refine Ev.step (fun k => impl_walked.l1.eq_2 _ _ _ _ _ _ _ _ _ _ _ _ _ _ _ _ _ k) ?_
      simp only [if_neg (show ¬ ((r.length : Int) < (r.length : Int)) by omega), w_i ht (show l.length ≤ 4611686018427387904 by omega)]
      have e : (rowF r.length fun i => if i < r.length then sw r.length c i (l.take (t + 1)) else sw r.length c i (l.take t)) = rowF r.length fun i => sw r.length c i (l.take (t + 1)) := rowF_congr fun i hi => by rw [if_pos hi]
      rw [e]
      exact hh
  · refine Ev.step (fun k => impl_walked.l0.eq_2 _ _ _ _ _ _ _ k) ?_
    simp only [if_neg (show ¬ ((l.length : Int) < (l.length : Int)) by omega), List.take_length]
    refine ev_steps (F := fun k j (s : List Int) => impl_walked.l2 k (rowF r.length fun i => sw r.length c i l) s r (r.length : Int) j) 0 r.length (Nat.zero_le _) (fun j => rowF j fun i => (r.getD i 0 + sw r.length c i l) % 8) (behindL r l c) (fun j _ hj hh => ?_) ?_
    · refine Ev.step (fun k => impl_walked.l2.eq_2 _ _ _ _ _ k) ?_
      have b1 := bd l.length j (Nat.le_refl _)
      rw [List.take_length] at b1
      have hrj := hr2 j
      have e0 : rd r (j : Int) = r.getD j 0 := rfl
      have w1 : wrap64 (r.getD j 0) = r.getD j 0 := w_id (by omega) (by omega)
      have w2 : wrap64 (r.getD j 0 + sw r.length c j l) = r.getD j 0 + sw r.length c j l := w_id (by omega) (by omega)
      have es : (rowF j fun i => (r.getD i 0 + sw r.length c i l) % 8) ++ [(r.getD j 0 + sw r.length c j l) % 8] = rowF (j + 1) fun i => (r.getD i 0 + sw r.length c i l) % 8 := by simp [rowF, List.range_succ]
      simp only [rowF_len, rowF_rd _ hj, e0, w1, w2, impl_eighths.f, Option.bind_some, eighth, es, if_pos (show (j : Int) < (r.length : Int) by omega), if_pos (show (0 : Int) ≤ (j : Int) by omega), if_pos (show j < 140737488355328 by omega), w_i hj (show r.length ≤ 4611686018427387904 by omega)]
      exact hh
    · refine Ev.step (fun k => impl_walked.l2.eq_2 _ _ _ _ _ k) ?_
      simp only [if_neg (show ¬ ((r.length : Int) < (r.length : Int)) by omega)]
      exact Ev.now _
theorem mod_walks (a w v t : Int) : (a + (w % 8) * v * t) % 8 = (a + w * v * t) % 8 := by
  have e : w * v * t = (w % 8) * v * t + 8 * ((w / 8) * v * t) := by
    have h := Int.emod_add_mul_ediv w 8
    calc w * v * t = (w % 8 + 8 * (w / 8)) * v * t := by rw [h]
      _ = (w % 8) * v * t + 8 * ((w / 8) * v * t) := by rw [Int.add_mul, Int.add_mul, Int.mul_assoc 8, Int.mul_assoc 8]
  rw [e, ← Int.add_assoc, Int.add_mul_emod_self_left]
theorem turned_t {n : Nat} (hn : 1 ≤ n) (hn2 : n ≤ 60) {x : W} (h : GoodW n x) (g : Nat → Int) (hgb : ∀ i, i < n → 0 ≤ g i ∧ g i ≤ 7) (w : Int) (hw : 0 ≤ w) : Ev (fun k => spec_l05Turned.f k (rowF n g) x.f0 x.f1 x.f2 x.f3 x.f4 x.f5 w) (rowF n fun i => (g i + w * vis n x i * x.f5) % 8) := by
  unfold spec_l05Turned.f
  simp only [Option.bind_some, List.length_nil, Nat.zero_add, rowF_len, List.nil_append, if_pos (show n < 140737488355328 by omega)]
  refine Ev.bind (spec_visits_t hn hn2 h) ?_
  refine ev_steps (F := fun k j (s : List Int) => spec_l05Turned.l0 k w s (rowF n (vis n x)) j x.f0 x.f1 x.f2 x.f3 x.f4 x.f5) 0 n (Nat.zero_le _) (fun j => rowF n fun i => if i < j then (g i + w * vis n x i * x.f5) % 8 else g i) _ (fun j _ hj hh => ?_) ?_
  · refine Ev.step (fun k => spec_l05Turned.l0.eq_2 _ _ _ _ _ _ _ _ _ _ k) ?_
    have hv := vis_bd h j
    have h5 := h.f5
    have hgj := hgb j hj
    have et : Int.tmod w 8 = w % 8 := tmod_pos hw
    have tb := term_bd h (w % 8) 7 (by omega) (by omega) (by omega) j
    have w5 : wrap64 x.f5 = x.f5 := w_id (by omega) (by omega)
    have w6 : wrap64 (w % 8 * vis n x j) = w % 8 * vis n x j := w_id (by omega) (by omega)
    have w7 : wrap64 (w % 8 * vis n x j * x.f5) = w % 8 * vis n x j * x.f5 := w_id (by omega) (by omega)
    have w8 : wrap64 (g j) = g j := w_id (by omega) (by omega)
    have w9 : wrap64 (g j + w % 8 * vis n x j * x.f5) = g j + w % 8 * vis n x j * x.f5 := w_id (by omega) (by omega)
    simp only [rowF_len, rowF_rd _ hj, if_neg (Nat.lt_irrefl j), et, w5, w6, w7, w8, w9, eighth, mod_walks, Int.toNat_natCast, rowF_set, if_pos (show (j : Int) < (n : Int) by omega), if_pos (show (0 : Int) ≤ (j : Int) by omega), w_i hj (show n ≤ 4611686018427387904 by omega)]
    have e : (rowF n fun i => if i = j then (g j + w * vis n x j * x.f5) % 8 else if i < j then (g i + w * vis n x i * x.f5) % 8 else g i) = rowF n fun i => if i < j + 1 then (g i + w * vis n x i * x.f5) % 8 else g i := rowF_congr fun i _ => by
      by_cases e1 : i = j
      · subst e1; simp
      · by_cases e2 : i < j
        · rw [if_neg e1, if_pos e2, if_pos (by omega)]
        · rw [if_neg e1, if_neg e2, if_neg (by omega)]
    rw [e]
    exact hh
  · refine Ev.step (fun k => spec_l05Turned.l0.eq_2 _ _ _ _ _ _ _ _ _ _ k) ?_
    simp only [rowF_len, if_neg (show ¬ ((n : Int) < (n : Int)) by omega)]
    have e : (rowF n fun i => if i < n then (g i + w * vis n x i * x.f5) % 8 else g i) = rowF n fun i => (g i + w * vis n x i * x.f5) % 8 := rowF_congr fun i hi => by rw [if_pos hi]
    rw [e]
    exact Ev.now _
def untilW (d : Int) (x : W) : Int := if d < x.f0 then 0 else (d - x.f0) / x.f1 + 1
def onW (d : Int) (x : W) : Bool := decide (x.f0 ≤ d) && decide ((d - x.f0) % x.f1 = 0)
def onI (d : Int) (x : W) : Int := if onW d x = true then 1 else 0
theorem untilW_bd {n : Nat} {x : W} (h : GoodW n x) (d : Int) (h0 : 0 ≤ d) : 0 ≤ untilW d x ∧ untilW d x ≤ d + 1 := by
  unfold untilW
  by_cases c : d < x.f0
  · rw [if_pos c]; omega
  · rw [if_neg c]
    have h1 := Int.ediv_nonneg (show 0 ≤ d - x.f0 by omega) (show 0 ≤ x.f1 by have := h.f1; omega)
    have h2 := Int.ediv_le_self x.f1 (show 0 ≤ d - x.f0 by omega)
    have := h.f0
    omega
theorem untilW_next {n : Nat} {x : W} (h : GoodW n x) (d : Int) : untilW (d + 1) x = untilW d x + onI (d + 1) x := by
  have h1 := h.f1
  unfold untilW onI onW
  by_cases c : d + 1 < x.f0
  · rw [if_pos c, if_pos (by omega), decide_eq_false (show ¬ x.f0 ≤ d + 1 by omega)]
    rfl
  · rw [if_neg c, decide_eq_true (show x.f0 ≤ d + 1 by omega), Bool.true_and]
    by_cases c2 : d < x.f0
    · rw [if_pos c2]
      have e : d + 1 - x.f0 = 0 := by omega
      rw [e]
      simp
    · rw [if_neg c2]
      obtain ⟨a, ha⟩ := Int.eq_ofNat_of_zero_le (show 0 ≤ d - x.f0 by omega)
      obtain ⟨b, hb⟩ := Int.eq_ofNat_of_zero_le (show 0 ≤ x.f1 by omega)
      have e : d + 1 - x.f0 = ((a + 1 : Nat) : Int) := by omega
      rw [e, ha, hb]
      have hs := Nat.succ_div (a := a) (b := b)
      rw [← Int.natCast_ediv, ← Int.natCast_ediv, ← Int.natCast_emod, hs]
      by_cases hd : b ∣ a + 1
      · rw [if_pos hd]
        have : (a + 1) % b = 0 := Nat.mod_eq_zero_of_dvd hd
        rw [this]
        simp
      · rw [if_neg hd]
        have : ¬ (a + 1) % b = 0 := fun e => hd (Nat.dvd_of_mod_eq_zero e)
        have h2 : ¬ (((a + 1) % b : Nat) : Int) = 0 := by omega
        rw [decide_eq_false h2]
        simp
theorem impl_until_t {n : Nat} {x : W} (h : GoodW n x) (d : Int) (h0 : -1 ≤ d) (h1 : d ≤ 1000000000) : impl_Walker_until.f x.f0 x.f1 x.f2 x.f3 x.f4 x.f5 d = some (untilW d x) := by
  have g0 := h.f0
  have g1 := h.f1
  unfold impl_Walker_until.f untilW
  rw [w_id (x := x.f0) (by omega) (by omega), w_id (x := x.f1) (by omega) (by omega)]
  by_cases c : d < x.f0
  · rw [if_pos c, if_pos c]
  · have h2 := Int.ediv_nonneg (show 0 ≤ d - x.f0 by omega) (show 0 ≤ x.f1 by omega)
    have h3 := Int.ediv_le_self x.f1 (show 0 ≤ d - x.f0 by omega)
    rw [if_neg c, if_neg c, if_neg (by omega), w_id (x := d - x.f0) (by omega) (by omega), tdiv_pos (by omega), w_id (x := (d - x.f0) / x.f1) (by omega) (by omega), w_id (by omega) (by omega)]
theorem spec_until_t {n : Nat} {x : W} (h : GoodW n x) (d : Int) (h0 : -1 ≤ d) (h1 : d ≤ 1000000000) : spec_l05Until.f x.f0 x.f1 x.f2 x.f3 x.f4 x.f5 d = some (untilW d x) := by
  have g0 := h.f0
  have g1 := h.f1
  unfold spec_l05Until.f untilW
  rw [w_id (x := x.f0) (by omega) (by omega), w_id (x := x.f1) (by omega) (by omega), w_id (x := d - x.f0) (by omega) (by omega)]
  by_cases c : d < x.f0
  · rw [if_pos (by omega), if_pos c]
  · have h2 := Int.ediv_nonneg (show 0 ≤ d - x.f0 by omega) (show 0 ≤ x.f1 by omega)
    have h3 := Int.ediv_le_self x.f1 (show 0 ≤ d - x.f0 by omega)
    rw [if_neg (by omega), if_neg c, if_neg (by omega), tdiv_pos (by omega), w_id (x := (d - x.f0) / x.f1) (by omega) (by omega), w_id (by omega) (by omega)]
theorem spec_on_t {n : Nat} {x : W} (h : GoodW n x) (d : Int) (h0 : -1 ≤ d) (h1 : d ≤ 1000000000) : spec_l05On.f x.f0 x.f1 x.f2 x.f3 x.f4 x.f5 d = some (onW d x) := by
  have g0 := h.f0
  have g1 := h.f1
  unfold spec_l05On.f onW
  rw [w_id (x := x.f0) (by omega) (by omega), w_id (x := x.f1) (by omega) (by omega), w_id (x := d - x.f0) (by omega) (by omega)]
  by_cases c : x.f0 ≤ d
  · rw [if_pos (by omega), if_neg (by omega), tmod_pos (by omega), decide_eq_true c, Bool.true_and]
    rfl
  · rw [if_neg (by omega), decide_eq_false c, Bool.false_and]
theorem whole_t {n : Nat} (hn : 1 ≤ n) (hn2 : n ≤ 60) (l : List W) (hl : l.length ≤ 8) (hg : ∀ x ∈ l, GoodW n x) (g : Nat → Int) (hgb : ∀ i, i < n → 0 ≤ g i ∧ g i ≤ 7) (d : Int) (h0 : 0 ≤ d) (h1 : d ≤ 1000000000) :
    Ev (fun k => spec_l05Whole.f k (rowF n g) l d) (rowF n fun i => (g i + sw n (untilW d) i l) % 8) := by
  unfold spec_l05Whole.f
  simp only [Option.bind_some, List.length_nil, Nat.zero_add, rowF_len, List.nil_append, if_pos (show n < 140737488355328 by omega)]
  have e0 : rowF n g = rowF n fun i => (g i + sw n (untilW d) i (l.take 0)) % 8 := rowF_congr fun i hi => by have := hgb i hi; simp only [List.take_zero, sw]; omega
  rw [e0]
  refine ev_steps (F := fun k t (s : List Int) => spec_l05Whole.l0 k l d s t) 0 l.length (Nat.zero_le _) (fun t => rowF n fun i => (g i + sw n (untilW d) i (l.take t)) % 8) _ (fun t _ ht hh => ?_) ?_
  · refine Ev.step (fun k => spec_l05Whole.l0.eq_2 _ _ _ _ k) ?_
    have hx := hg l[t] (List.getElem_mem ht)
    have hrd : rd_T53 l (t : Int) = l[t] := getD_lt ht _
    have hu := untilW_bd hx d h0
    simp only [hrd, spec_until_t hx d (by omega) h1, Option.bind_some, if_pos (show (t : Int) < (l.length : Int) by omega), if_pos (show (0 : Int) ≤ (t : Int) by omega)]
    refine Ev.bind (turned_t hn hn2 hx _ (fun i _ => by omega) _ hu.1) ?_
    simp only [w_i ht (show l.length ≤ 4611686018427387904 by omega)]
    have e : (rowF n fun i => ((g i + sw n (untilW d) i (l.take t)) % 8 + untilW d l[t] * vis n l[t] i * l[t].f5) % 8) = rowF n fun i => (g i + sw n (untilW d) i (l.take (t + 1))) % 8 := rowF_congr fun i _ => by rw [List.take_succ_eq_append_getElem ht, sw_snoc]; omega
    rw [e]
    exact hh
  · refine Ev.step (fun k => spec_l05Whole.l0.eq_2 _ _ _ _ k) ?_
    simp only [if_neg (show ¬ ((l.length : Int) < (l.length : Int)) by omega), List.take_length]
    exact Ev.now _
theorem l00In_t (x lo hi : Int) : spec_l00In.f x lo hi = some (inB x lo hi) := by
  unfold spec_l00In.f inB
  by_cases h : lo ≤ x <;> simp [h]
theorem l05Ok_t (l : List Int) (hl : l.length ≤ 1048576) : Ev (fun k => spec_l05Ok.f k l) (rowOkB l) := by
  unfold spec_l05Ok.f
  have h := ev_all (F := fun k i => spec_l05Ok.l0 k l i) l.length (fun j => decide (l.getD j 0 ≤ 7)) (inB (l.length : Int) 1 60) false (fun i hi hp r h => by
    refine Ev.step (fun k => spec_l05Ok.l0.eq_2 _ _ k) ?_
    have e0 : rd l (i : Int) = l.getD i 0 := rfl
    simp only [e0, if_pos (show (i : Int) < (l.length : Int) by omega), if_pos (show (0 : Int) ≤ (i : Int) by omega), if_neg (show ¬ l.getD i 0 > 7 by have := of_decide_eq_true hp; omega), w_i hi (show l.length ≤ 4611686018427387904 by omega)]
    exact h) (fun i hi hp => by
    refine Ev.step (fun k => spec_l05Ok.l0.eq_2 _ _ k) ?_
    have e0 : rd l (i : Int) = l.getD i 0 := rfl
    simp only [e0, if_pos (show (i : Int) < (l.length : Int) by omega), if_pos (show (0 : Int) ≤ (i : Int) by omega), if_pos (show l.getD i 0 > 7 by have := of_decide_eq_false hp; omega)]
    exact Ev.now _) (by
    refine Ev.step (fun k => spec_l05Ok.l0.eq_2 _ _ k) ?_
    simp only [if_neg (show ¬ ((l.length : Int) < (l.length : Int)) by omega), l00In_t, Option.bind_some]
    exact Ev.now _)
  have e : (if ((List.range l.length).all fun j => decide (l.getD j 0 ≤ 7)) = true then inB (l.length : Int) 1 60 else false) = rowOkB l := by
    unfold rowOkB
    rw [all_range l 0 fun x => decide (x ≤ 7)]
    cases ((List.range l.length).all fun j => decide (l.getD j 0 ≤ 7)) <;> cases inB (l.length : Int) 1 60 <;> rfl
  rw [← e]
  exact h
theorem rowOk_is {r : List Int} (h : rowOkB r = true) : (1 ≤ r.length ∧ r.length ≤ 60) ∧ ∀ i, i < r.length → r.getD i 0 ≤ 7 := by
  unfold rowOkB at h
  rw [Bool.and_eq_true, inB_iff, List.all_eq_true] at h
  refine ⟨by omega, fun i hi => ?_⟩
  rw [getD_lt hi]
  exact of_decide_eq_true (h.2 _ (List.getElem_mem hi))
theorem l05Walker_t (s : Int) (x : W) : Ev (fun k => spec_l05Walker.f k s x.f0 x.f1 x.f2 x.f3 x.f4 x.f5) (wB s x) := by
  unfold spec_l05Walker.f wB walkB
  simp only [l00In_t, Option.bind_some]
  cases inB (wrap64 x.f0) 0 10000
  · simp only [Bool.false_eq_true, if_false]
    refine Ev.step (fun k => spec_l05Walker.j0.eq_2 _ _ _ _ _ _ _ k) ?_
    exact Ev.now _
  · cases inB (wrap64 x.f1) 1 100
    · simp only [Bool.false_eq_true, if_false, if_true]
      refine Ev.step (fun k => spec_l05Walker.j0.eq_2 _ _ _ _ _ _ _ k) ?_
      exact Ev.now _
    · simp only [if_true]
      refine Ev.step (fun k => spec_l05Walker.j0.eq_2 _ _ _ _ _ _ _ k) ?_
      simp only [l00In_t, Option.bind_some]
      cases inB (wrap64 x.f2) 0 (wrap64 (s - 1)) <;> cases inB (wrap64 x.f3) 0 60 <;> cases inB (wrap64 x.f4) 1 60 <;> exact Ev.now _
theorem l05Walkers_t (s : Int) (l : List W) (hl : l.length ≤ 1048576) : Ev (fun k => spec_l05Walkers.f k s l) (walkersB s l) := by
  unfold spec_l05Walkers.f walkersB
  simp only [l00In_t, Option.bind_some]
  cases inB s 1 60
  · simp only [Bool.false_eq_true, if_false]
    refine Ev.step (fun k => spec_l05Walkers.j0.eq_2 _ _ _ k) ?_
    exact Ev.now _
  · simp only [if_true]
    by_cases h8 : l.length ≤ 8
    · rw [decide_eq_false (show ¬ (l.length : Int) > 8 by omega), decide_eq_true h8]
      refine Ev.step (fun k => spec_l05Walkers.j0.eq_2 _ _ _ k) ?_
      simp only [Bool.false_eq_true, if_false, Bool.true_and]
      have h := ev_all (F := fun k i => spec_l05Walkers.l0 k s l i) l.length (fun j => wB s (l.getD j z53)) true false (fun i hi hp r h => by
        refine Ev.step (fun k => spec_l05Walkers.l0.eq_2 _ _ _ k) ?_
        have e0 : rd_T53 l (i : Int) = l.getD i z53 := rfl
        simp only [e0, if_pos (show (i : Int) < (l.length : Int) by omega), if_pos (show (0 : Int) ≤ (i : Int) by omega)]
        refine Ev.bind (l05Walker_t s _) ?_
        rw [hp]
        simp only [if_true, w_i hi (show l.length ≤ 4611686018427387904 by omega)]
        exact h) (fun i hi hp => by
        refine Ev.step (fun k => spec_l05Walkers.l0.eq_2 _ _ _ k) ?_
        have e0 : rd_T53 l (i : Int) = l.getD i z53 := rfl
        simp only [e0, if_pos (show (i : Int) < (l.length : Int) by omega), if_pos (show (0 : Int) ≤ (i : Int) by omega)]
        refine Ev.bind (l05Walker_t s _) ?_
        rw [hp]
        exact Ev.now _) (by
        refine Ev.step (fun k => spec_l05Walkers.l0.eq_2 _ _ _ k) ?_
        simp only [if_neg (show ¬ ((l.length : Int) < (l.length : Int)) by omega)]
        exact Ev.now _)
      rw [all_range l z53 (wB s)]
      have e : (if ((List.range l.length).all fun j => wB s (l.getD j z53)) = true then true else false) = ((List.range l.length).all fun j => wB s (l.getD j z53)) := by cases ((List.range l.length).all fun j => wB s (l.getD j z53)) <;> rfl
      rw [← e]
      exact h
    · rw [decide_eq_true (show (l.length : Int) > 8 by omega), decide_eq_false h8]
      refine Ev.step (fun k => spec_l05Walkers.j0.eq_2 _ _ _ k) ?_
      exact Ev.now _
theorem walkersB_is {s : Int} {l : List W} (h : walkersB s l = true) : (1 ≤ s ∧ s ≤ 60) ∧ l.length ≤ 8 ∧ ∀ x ∈ l, wB s x = true := by
  unfold walkersB at h
  rw [Bool.and_eq_true, Bool.and_eq_true, inB_iff, decide_eq_true_eq, List.all_eq_true] at h
  exact ⟨h.1, h.2.1, h.2.2⟩
end LW
end Go.Proofs.Ythkifkfnlmjafaa.G
