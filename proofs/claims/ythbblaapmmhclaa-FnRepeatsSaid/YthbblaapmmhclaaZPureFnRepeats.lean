import Derived.Test.YthbblaapmmhclaaZSayFnRepeats
import Derived.Test.YthbblaapmmhclaaZFLibDraw
import Derived.Test.YthbblaapmmhclaaZFLibSpan
import Derived.Test.YthbblaapmmhclaaZFRepeatsB
namespace Go.Proofs.Ythbblaapmmhclaa.PureFnRepeats
open Go.RowKit Go.Proofs.YthbblaapmmhclaaW.PrintWords Go.Proofs.Ythbblaapmmhclaa.G Go.Proofs.Ythbblaapmmhclaa.SayFnRepeats Go.Proofs.Ythbblaapmmhclaa.Wk Go.Proofs.Ythbblaapmmhclaa.Pl LW
set_option linter.unusedSimpArgs false
set_option linter.unusedVariables false
def chk (a e : Int) : Bool := match spec_l05Common.f 20 a e, impl_multiple.f 20 a e with
  | some g, some m => decide (g ≠ 0) && decide (wrap64 ((wrap64 (Int.tdiv a g)) * e) = m) && decide (1 ≤ m) && decide (m ≤ 60) && decide (60 % m = 0) && decide (m % a = 0) && decide (m % e = 0)
  | _, _ => false
theorem chk_all : ((List.range 60).all fun a => decide (¬ (60 : Int) % ((a : Int) + 1) = 0) || (List.range 6).all fun e => chk ((a : Int) + 1) ((e : Int) + 1)) = true := by decide +kernel
theorem common (a e : Int) (ha : 1 ≤ a ∧ a ≤ 60) (hd : 60 % a = 0) (he : 1 ≤ e ∧ e ≤ 6) :
    ∃ g m, Ev (fun k => spec_l05Common.f k a e) g ∧ Ev (fun k => impl_multiple.f k a e) m ∧ g ≠ 0 ∧ wrap64 ((wrap64 (Int.tdiv a g)) * e) = m ∧ (1 ≤ m ∧ m ≤ 60) ∧ 60 % m = 0 ∧ m % a = 0 ∧ m % e = 0 := by
  have h := List.all_eq_true.1 chk_all (a - 1).toNat (List.mem_range.2 (by omega))
  rw [show (((a - 1).toNat : Nat) : Int) + 1 = a by omega, decide_eq_false (by simp [hd]), Bool.false_or] at h
  have h2 := List.all_eq_true.1 h (e - 1).toNat (List.mem_range.2 (by omega))
  rw [show (((e - 1).toNat : Nat) : Int) + 1 = e by omega] at h2
  unfold chk at h2
  cases hg : spec_l05Common.f 20 a e with
  | none => simp [hg] at h2
  | some g =>
    cases hm : impl_multiple.f 20 a e with
    | none => simp [hg, hm] at h2
    | some m =>
      simp only [hg, hm, Bool.and_eq_true, decide_eq_true_eq] at h2
      obtain ⟨⟨⟨⟨⟨⟨c1, c2⟩, c3⟩, c4⟩, c5⟩, c6⟩, c7⟩ := h2
      exact ⟨g, m, Ev.of (fun k => spec_l05Common.mono _ _ k) hg, Ev.of (fun k => impl_multiple.mono _ _ k) hm, c1, c2, ⟨c3, c4⟩, c5, c6, c7⟩
structure Dr (r : List Int) (l : List W) : Prop where
  n : 1 ≤ r.length ∧ r.length ≤ 7
  seven : ∀ i : Nat, 0 ≤ r.getD i 0 ∧ r.getD i 0 ≤ 7
  l3 : l.length ≤ 3
  few : ∀ x ∈ l, Draw.FewW r.length x
theorem few_good {n : Nat} {x : W} (h : Draw.FewW n x) : GoodW n x :=
  ⟨by have := h.f0; omega, by have := h.f1; omega, h.f2, by have := h.f3; omega, by have := h.f4; omega, h.f5⟩
theorem Dr.good {r : List Int} {l : List W} (h : Dr r l) : ∀ x ∈ l, GoodW r.length x := fun x hx => few_good (h.few x hx)
theorem Dr.goodR {r : List Int} {l : List W} (h : Dr r l) : GoodR r l := ⟨by have := h.n; omega, h.seven, by have := h.l3; omega, h.good⟩
theorem Dr.rowOk {r : List Int} {l : List W} (h : Dr r l) : rowOkB r = true := by
  unfold rowOkB
  rw [inB_yes (by have := h.n; omega) (by have := h.n; omega), Bool.true_and]
  refine List.all_eq_true.2 fun x hx => ?_
  obtain ⟨i, hi, rfl⟩ := List.getElem_of_mem hx
  have := h.seven i
  rw [getD_lt hi] at this
  exact decide_eq_true this.2
theorem walkersB_yes {n : Nat} (hn : 1 ≤ n ∧ n ≤ 60) {l : List W} (hl : l.length ≤ 8) (h : ∀ x ∈ l, GoodW n x) : walkersB n l = true := by
  unfold walkersB
  rw [inB_yes (by omega) (by omega), Bool.true_and, decide_eq_true hl, Bool.true_and]
  exact List.all_eq_true.2 fun x hx => good_B (by omega) (h x hx)
theorem Dr.walk {r : List Int} {l : List W} (h : Dr r l) : walkersB r.length l = true := walkersB_yes (by have := h.n; omega) (by have := h.l3; omega) h.good
theorem one_good {n : Nat} {x : W} (h : GoodW n x) : ∀ y ∈ [x], GoodW n y := fun y hy => by rw [List.mem_singleton.1 hy]; exact h
theorem comes_t {n : Nat} {x : W} (h : GoodW n x) (d : Int) (h0 : 0 ≤ d) (h1 : d ≤ 1000000000) : impl_Walker_comes.f x.f0 x.f1 x.f2 x.f3 x.f4 x.f5 d = some (onW d x) := by
  have g0 := h.f0
  have g1 := h.f1
  unfold impl_Walker_comes.f onW
  rw [w_id (x := x.f0) (by omega) (by omega), w_id (x := x.f1) (by omega) (by omega), w_id (x := d - x.f0) (by omega) (by omega)]
  by_cases c : x.f0 ≤ d
  · rw [if_pos (by omega), if_neg (by omega), tmod_pos (by omega), decide_eq_true c, Bool.true_and]
    rfl
  · rw [if_neg (by omega), decide_eq_false c, Bool.false_and]
theorem walksOn_t {n : Nat} (hn : 1 ≤ n ∧ n ≤ 60) {x : W} (h : GoodW n x) (d : Int) (h0 : 0 ≤ d) (h1 : d ≤ 10000) : impl_WalksOn.f n x.f0 x.f1 x.f2 x.f3 x.f4 x.f5 d = some (onW d x, 0) := by
  unfold impl_WalksOn.f impl_ValidWalkers.f
  rw [show ([⟨x.f0, x.f1, x.f2, x.f3, x.f4, x.f5⟩] : List W) = [x] from rfl, walkersB_yes hn (by simp) (one_good h)]
  simp only [isDay_t, allB_one, inB_yes h0 h1, codeOf_t, askC, Option.bind_some, if_true, comes_t h d h0 (by omega)]
theorem walksUntil_t {n : Nat} (hn : 1 ≤ n ∧ n ≤ 60) {x : W} (h : GoodW n x) (d : Int) (h0 : 0 ≤ d) (h1 : d ≤ 10000) : impl_WalksUntil.f n x.f0 x.f1 x.f2 x.f3 x.f4 x.f5 d = some (untilW d x, 0) := by
  unfold impl_WalksUntil.f impl_ValidWalkers.f
  rw [show ([⟨x.f0, x.f1, x.f2, x.f3, x.f4, x.f5⟩] : List W) = [x] from rfl, walkersB_yes hn (by simp) (one_good h)]
  simp only [isDay_t, allB_one, inB_yes h0 h1, codeOf_t, askC, Option.bind_some, if_true, impl_until_t h d (by omega) (by omega)]
theorem specOn_t {n : Nat} (hn : 1 ≤ n ∧ n ≤ 60) {x : W} (h : GoodW n x) (d : Int) (h0 : 0 ≤ d) (h1 : d ≤ 10000) : Ev (fun k => spec_WalksOn.f k n x.f0 x.f1 x.f2 x.f3 x.f4 x.f5 d) (onW d x, 0) := by
  unfold spec_WalksOn.f
  simp only [day_t, Option.bind_some, inB_yes h0 h1]
  refine Ev.bind (asked_t n [x] (by simp) true) ?_
  rw [walkersB_yes hn (by simp) (one_good h)]
  simp only [askC, if_true, spec_on_t h d (by omega) (by omega), Option.bind_some]
  exact Ev.now _
theorem every_t {r : List Int} {l : List W} (h : Dr r l) : ∃ L : Int, (1 ≤ L ∧ L ≤ 60) ∧ (∀ x ∈ l, L % x.f1 = 0) ∧ Ev (fun k => impl_AllWalkEvery.f k r.length l) (L, 0) ∧ Ev (fun k => spec_AllWalkEvery.f k r.length l) (L, 0) := by
  have key : ∀ d (t : Nat) (a : Int), t + d = l.length → (1 ≤ a ∧ a ≤ 60) → 60 % a = 0 → (∀ x ∈ l.take t, a % x.f1 = 0) →
      ∃ L : Int, (1 ≤ L ∧ L ≤ 60) ∧ (∀ x ∈ l, L % x.f1 = 0) ∧ Ev (fun k => impl_AllWalkEvery.l0 k a l (l.length : Int) t) (L, 0) ∧ Ev (fun k => spec_l05Every.l0 k l a t) (L, true) := by
    intro d
    induction d with
    | zero =>
      intro t a ht ha h60 hx
      obtain rfl : t = l.length := by omega
      rw [List.take_length] at hx
      refine ⟨a, ha, hx, Ev.step (fun k => impl_AllWalkEvery.l0.eq_2 _ _ _ _ k) ?_, Ev.step (fun k => spec_l05Every.l0.eq_2 _ _ _ k) ?_⟩
      · simp only [if_neg (show ¬ ((l.length : Int) < (l.length : Int)) by omega)]
        exact Ev.now _
      · simp only [if_neg (show ¬ ((l.length : Int) < (l.length : Int)) by omega)]
        exact Ev.now _
    | succ d ih =>
      intro t a ht ha h60 hx
      have hlt : t < l.length := by omega
      have hf := h.few l[t] (List.getElem_mem hlt)
      have hrd : rd_T53 l (t : Int) = l[t] := getD_lt hlt _
      have w1 : wrap64 l[t].f1 = l[t].f1 := w_id (by have := hf.f1; omega) (by have := hf.f1; omega)
      obtain ⟨g, m, hg, hm, g0, gm, hm1, hm60, hma, hme⟩ := common a l[t].f1 ha h60 hf.f1
      obtain ⟨L, hL, hLx, e1, e2⟩ := ih (t + 1) m (by omega) hm1 hm60 (fun x hx2 => by
        rw [List.take_succ_eq_append_getElem hlt] at hx2
        rcases List.mem_append.1 hx2 with h1 | h1
        · exact Int.emod_eq_zero_of_dvd (Int.dvd_trans (Int.dvd_of_emod_eq_zero (hx x h1)) (Int.dvd_of_emod_eq_zero hma))
        · rw [List.mem_singleton.1 h1]; exact hme)
      refine ⟨L, hL, hLx, Ev.step (fun k => impl_AllWalkEvery.l0.eq_2 _ _ _ _ k) ?_, Ev.step (fun k => spec_l05Every.l0.eq_2 _ _ _ k) ?_⟩
      · simp only [hrd, w1, if_pos (show (t : Int) < (l.length : Int) by omega), if_pos (show (0 : Int) ≤ (t : Int) by omega)]
        refine Ev.bind hm ?_
        simp only [if_neg (show ¬ m > 1000000 by omega), w_i hlt (show l.length ≤ 4611686018427387904 by have := h.l3; omega)]
        exact e1
      · simp only [hrd, w1, if_pos (show (t : Int) < (l.length : Int) by omega), if_pos (show (0 : Int) ≤ (t : Int) by omega)]
        refine Ev.bind hg ?_
        simp only [if_neg g0, gm, if_neg (show ¬ m > 1000000 by omega), w_i hlt (show l.length ≤ 4611686018427387904 by have := h.l3; omega)]
        exact e2
  obtain ⟨L, hL, hx, e1, e2⟩ := key l.length 0 1 (by omega) (by omega) (by decide) (by simp)
  refine ⟨L, hL, hx, ?_, ?_⟩
  · unfold impl_AllWalkEvery.f impl_ValidWalkers.f
    simp only [h.walk, Option.bind_some, if_true]
    exact e1
  · unfold spec_AllWalkEvery.f
    refine Ev.bind (asked_t _ l (by have := h.l3; omega) true) ?_
    simp only [h.walk, askC, if_true]
    unfold spec_l05Every.f
    refine Ev.bind e2 ?_
    simp only [if_true]
    exact Ev.now _
theorem rowOnI_t {r : List Int} {l : List W} (h : Dr r l) (d : Int) (h0 : 0 ≤ d) (h1 : d ≤ 10000) : Ev (fun k => impl_RowOn.f k r l d) (behindL r l (untilW d), 0) := by
  unfold impl_RowOn.f
  simp only [rowOk_t, h.rowOk, h.walk, Bool.true_and, Option.bind_some, isDay_t, allB_one, inB_yes h0 h1, codeOf_t, askC, if_true]
  exact Ev.bind (rowOn_t h.goodR d h0 (by omega)) (Ev.now _)
theorem sw_mul (n : Nat) (k : Int) (c : W → Int) (i : Nat) : ∀ l, sw n (fun x => k * c x) i l = k * sw n c i l
  | [] => by simp [sw]
  | x :: r => by rw [sw, sw, sw_mul n k c i r, Int.mul_add, Int.mul_assoc, Int.mul_assoc, Int.mul_assoc]
def cE (L : Int) (x : W) : Int := L / x.f1
def nz (l : List Int) : Bool := (List.range l.length).any fun j => (l.getD j 0) != 0
def turn (r : List Int) (l : List W) (L k : Int) : List Int := rowF r.length fun i => (k * sw r.length (cE L) i l) % 8
theorem nz_false {n : Nat} {g : Nat → Int} (h : nz (rowF n g) = false) : ∀ i, i < n → g i = 0 := by
  intro i hi
  unfold nz at h
  rw [rowF_len, List.any_eq_false] at h
  have := h i (List.mem_range.2 hi)
  rw [rowF_get _ hi] at this
  simpa using this
theorem equal_t (n : Nat) (hn : n ≤ 1000) (g : Nat → Int) : Ev (fun k => impl_Row_uint8_81.f k (List.replicate n 0) (rowF n g)) (!(nz (rowF n g))) := by
  unfold impl_Row_uint8_81.f
  simp only [List.length_replicate, rowF_len, if_true]
  have h := ev_all (F := fun k i => impl_Row_uint8_81.l0 k (List.replicate n 0) (rowF n g) (n : Int) i) n (fun j => (g j) == 0) true false (fun i hi hp r h => by
    refine Ev.step (fun k => impl_Row_uint8_81.l0.eq_2 _ _ _ _ k) ?_
    have e0 : rd (List.replicate n (0 : Int)) (i : Int) = 0 := by show (List.replicate n (0 : Int)).getD i 0 = 0; simp [List.getD, hi]
    simp only [List.length_replicate, rowF_len, e0, rowF_rd g hi, if_pos (show (i : Int) < (n : Int) by omega), if_pos (show (0 : Int) ≤ (i : Int) by omega), if_pos (beq_iff_eq.1 hp).symm, w_i hi (show n ≤ 4611686018427387904 by omega)]
    exact h) (fun i hi hp => by
    refine Ev.step (fun k => impl_Row_uint8_81.l0.eq_2 _ _ _ _ k) ?_
    have e0 : rd (List.replicate n (0 : Int)) (i : Int) = 0 := by show (List.replicate n (0 : Int)).getD i 0 = 0; simp [List.getD, hi]
    simp only [List.length_replicate, rowF_len, e0, rowF_rd g hi, if_pos (show (i : Int) < (n : Int) by omega), if_pos (show (0 : Int) ≤ (i : Int) by omega), if_neg (fun e : (0 : Int) = g i => beq_eq_false_iff_ne.1 hp e.symm)]
    exact Ev.now _) (by
    refine Ev.step (fun k => impl_Row_uint8_81.l0.eq_2 _ _ _ _ k) ?_
    simp only [if_neg (show ¬ ((n : Int) < (n : Int)) by omega)]
    exact Ev.now _)
  have e : (if ((List.range n).all fun j => (g j) == 0) = true then true else false) = !(nz (rowF n g)) := by
    unfold nz
    rw [rowF_len, List.not_any_eq_all_not]
    have : ((List.range n).all fun j => !((rowF n g).getD j 0 != 0)) = (List.range n).all fun j => (g j) == 0 := by
      rw [Bool.eq_iff_iff, List.all_eq_true, List.all_eq_true]
      constructor
      · intro h j hj
        have := h j hj
        rw [rowF_get _ (List.mem_range.1 hj)] at this
        simpa using this
      · intro h j hj
        have := h j hj
        rw [rowF_get _ (List.mem_range.1 hj)]
        simpa using this
    rw [this]
    cases ((List.range n).all fun j => (g j) == 0) <;> rfl
  rw [← e]
  exact h
theorem cE_bd {r : List Int} {l : List W} (h : Dr r l) {L : Int} (hL : 1 ≤ L ∧ L ≤ 60) {x : W} (hx : x ∈ l) : 0 ≤ cE L x ∧ cE L x ≤ 60 := by
  have hf := (h.few x hx).f1
  have h1 := Int.ediv_nonneg (show 0 ≤ L by omega) (show 0 ≤ x.f1 by omega)
  have h2 := Int.ediv_le_self x.f1 (show 0 ≤ L by omega)
  unfold cE
  omega
theorem mul_div {L k f : Int} (hf : L % f = 0) : (k * L) / f = k * (L / f) := Int.mul_ediv_assoc k (Int.dvd_of_emod_eq_zero hf)
theorem repeats_t {r : List Int} {l : List W} (h : Dr r l) {L : Int} (hL : 1 ≤ L ∧ L ≤ 60) (hx : ∀ x ∈ l, L % x.f1 = 0) (e1 : Ev (fun k => impl_AllWalkEvery.f k r.length l) (L, 0)) (e2 : Ev (fun k => spec_AllWalkEvery.f k r.length l) (L, 0)) :
    ∃ T : Int, (1 ≤ T ∧ T ≤ 8) ∧ (∀ i, i < r.length → (T * sw r.length (cE L) i l) % 8 = 0) ∧ Ev (fun k => impl_RepeatsBehind.f k r.length l) (T * L, 0) ∧ Ev (fun k => spec_RepeatsBehind.f k r.length l) (T * L, 0) := by
  have hn := h.n
  have big : ∀ T : Int, 1 ≤ T → T ≤ 8 → 0 ≤ T * L ∧ T * L ≤ 480 := fun T h1 h2 => ⟨Int.mul_nonneg (by omega) (by omega), by have := Int.mul_le_mul h2 hL.2 (by omega) (by omega); omega⟩
  have loop : ∀ d (k : Int), k + (d : Nat) = 8 → 1 ≤ k → ∃ T : Int, (1 ≤ T ∧ T ≤ 8) ∧ (∀ i, i < r.length → (T * sw r.length (cE L) i l) % 8 = 0) ∧ Ev (fun q => Rep.l0 q r.length l L k) (T * L, 0) ∧ Ev (fun q => spec_RepeatsBehind.l1 q L (turn r l L 1) k (turn r l L k)) (T * L, 0) := by
    intro d
    induction d with
    | zero =>
      intro k hk hk1
      obtain rfl : k = 8 := by omega
      have hz : nz (turn r l L 8) = false := by
        unfold nz turn
        rw [rowF_len, List.any_eq_false]
        intro i hi
        rw [rowF_get _ (List.mem_range.1 hi)]
        have : (8 * sw r.length (cE L) i l) % 8 = 0 := by omega
        simp [this]
      refine ⟨8, by omega, nz_false hz, ?_, ?_⟩
      · refine Ev.step (fun q => Rep.l0.eq_2 _ _ _ _ q) ?_
        have hw := walked_t (List.replicate r.length 0) l (Rep.repC 8 L) (fun x => 8 * cE L x) (by simp; omega) (by have := h.l3; omega) (by simpa using h.good) (fun i => by by_cases hi : i < r.length <;> simp [List.getD, hi]) (fun x hx2 => by
          have hf := (h.few x hx2).f1
          have hc := cE_bd h hL hx2
          refine ⟨?_, by omega, by omega⟩
          unfold Rep.repC
          rw [w_id (x := x.f1) (by omega) (by omega), if_neg (by omega), w_id (x := 8 * L) (by omega) (by omega), tdiv_pos (by omega), mul_div (hx x hx2)]
          show some (wrap64 (8 * cE L x)) = _
          rw [w_id (by omega) (by omega)])
        simp only [Int.toNat_natCast]
        refine Ev.bind hw ?_
        have e : behindL (List.replicate r.length 0) l (fun x => 8 * cE L x) = turn r l L 8 := by
          unfold behindL turn
          rw [List.length_replicate]
          refine rowF_congr fun i hi => ?_
          rw [sw_mul]
          simp [List.getD, hi]
        rw [e]
        unfold turn at hz ⊢
        refine Ev.bind (equal_t r.length (by omega) _) ?_
        rw [hz]
        simp only [Bool.not_false, if_true]
        rw [w_id (by omega) (by omega)]
        exact Ev.now _
      · refine Ev.step (fun q => spec_RepeatsBehind.l1.eq_2 _ _ _ _ q) ?_
        refine Ev.bind (upright_t (turn r l L 8) (by unfold turn; rw [rowF_len]; omega)) ?_
        unfold nz at hz
        rw [hz]
        simp only [Bool.not_false, if_true]
        rw [w_id (by omega) (by omega)]
        exact Ev.now _
    | succ d ih =>
      intro k hk hk1
      have hw := walked_t (List.replicate r.length 0) l (Rep.repC k L) (fun x => k * cE L x) (by simp; omega) (by have := h.l3; omega) (by simpa using h.good) (fun i => by by_cases hi : i < r.length <;> simp [List.getD, hi]) (fun x hx2 => by
        have hf := (h.few x hx2).f1
        have hc := cE_bd h hL hx2
        have hkL := big k hk1 (by omega)
        have hkc : 0 ≤ k * cE L x ∧ k * cE L x ≤ 480 := ⟨Int.mul_nonneg (by omega) hc.1, by have := Int.mul_le_mul (show k ≤ 8 by omega) hc.2 hc.1 (by omega); omega⟩
        refine ⟨?_, by omega, by omega⟩
        unfold Rep.repC
        rw [w_id (x := x.f1) (by omega) (by omega), if_neg (by omega), w_id (x := k * L) (by omega) (by omega), tdiv_pos (by omega), mul_div (hx x hx2)]
        show some (wrap64 (k * cE L x)) = _
        rw [w_id (by omega) (by omega)])
      have e : behindL (List.replicate r.length 0) l (fun x => k * cE L x) = turn r l L k := by
        unfold behindL turn
        rw [List.length_replicate]
        refine rowF_congr fun i hi => ?_
        rw [sw_mul]
        simp [List.getD, hi]
      rw [e] at hw
      have hkL := big k hk1 (by omega)
      cases hz : nz (turn r l L k)
      · refine ⟨k, by omega, nz_false hz, ?_, ?_⟩
        · refine Ev.step (fun q => Rep.l0.eq_2 _ _ _ _ q) ?_
          simp only [Int.toNat_natCast]
          refine Ev.bind hw ?_
          unfold turn at hz ⊢
          refine Ev.bind (equal_t r.length (by omega) _) ?_
          rw [hz]
          simp only [Bool.not_false, if_true]
          rw [w_id (by omega) (by omega)]
          exact Ev.now _
        · refine Ev.step (fun q => spec_RepeatsBehind.l1.eq_2 _ _ _ _ q) ?_
          refine Ev.bind (upright_t (turn r l L k) (by unfold turn; rw [rowF_len]; omega)) ?_
          unfold nz at hz
          rw [hz]
          simp only [Bool.not_false, if_true]
          rw [w_id (by omega) (by omega)]
          exact Ev.now _
      · obtain ⟨T, hT, hT0, i1, i2⟩ := ih (k + 1) (by omega) (by omega)
        have hw1 : wrap64 (k + 1) = k + 1 := w_id (by omega) (by omega)
        refine ⟨T, hT, hT0, ?_, ?_⟩
        · refine Ev.step (fun q => Rep.l0.eq_2 _ _ _ _ q) ?_
          simp only [Int.toNat_natCast]
          refine Ev.bind hw ?_
          unfold turn at hz ⊢
          refine Ev.bind (equal_t r.length (by omega) _) ?_
          rw [hz]
          simp only [Bool.not_true, Bool.false_eq_true, if_false, hw1]
          exact i1
        · refine Ev.step (fun q => spec_RepeatsBehind.l1.eq_2 _ _ _ _ q) ?_
          refine Ev.bind (upright_t (turn r l L k) (by unfold turn; rw [rowF_len]; omega)) ?_
          unfold nz at hz
          rw [hz]
          simp only [Bool.not_true, Bool.false_eq_true, if_false]
          have t1 : turn r l L 1 = rowF r.length fun i => (1 * sw r.length (cE L) i l) % 8 := rfl
          rw [t1]
          rw [t1] at i2
          unfold turn
          refine ev_steps (F := fun q j (s : List Int) => spec_RepeatsBehind.l2 q L (rowF r.length fun i => (1 * sw r.length (cE L) i l) % 8) k s j) 0 r.length (Nat.zero_le _) (fun j => rowF r.length fun i => if i < j then ((k + 1) * sw r.length (cE L) i l) % 8 else (k * sw r.length (cE L) i l) % 8) (T * L, (0 : Int)) (fun j _ hj hh => ?_) ?_
          · refine Ev.step (fun q => spec_RepeatsBehind.l2.eq_2 _ _ _ _ _ q) ?_
            have ev : ((k * sw r.length (cE L) j l) % 8 + (1 * sw r.length (cE L) j l) % 8) % 256 % 8 = ((k + 1) * sw r.length (cE L) j l) % 8 := by rw [Int.add_mul]; omega
            simp only [rowF_len, rowF_rd _ hj, if_neg (Nat.lt_irrefl j), ev, Int.toNat_natCast, rowF_set, if_pos (show (j : Int) < (r.length : Int) by omega), if_pos (show (0 : Int) ≤ (j : Int) by omega), w_i hj (show r.length ≤ 4611686018427387904 by omega)]
            have e : (rowF r.length fun i => if i = j then ((k + 1) * sw r.length (cE L) j l) % 8 else if i < j then ((k + 1) * sw r.length (cE L) i l) % 8 else (k * sw r.length (cE L) i l) % 8) = rowF r.length fun i => if i < j + 1 then ((k + 1) * sw r.length (cE L) i l) % 8 else (k * sw r.length (cE L) i l) % 8 := rowF_congr fun i _ => by
              by_cases e1 : i = j
              · subst e1; simp
              · by_cases e2 : i < j
                · rw [if_neg e1, if_pos e2, if_pos (by omega)]
                · rw [if_neg e1, if_neg e2, if_neg (by omega)]
            rw [e]
            exact hh
          · refine Ev.step (fun q => spec_RepeatsBehind.l2.eq_2 _ _ _ _ _ q) ?_
            simp only [rowF_len, if_neg (show ¬ ((r.length : Int) < (r.length : Int)) by omega), hw1]
            have e : (rowF r.length fun i => if i < r.length then ((k + 1) * sw r.length (cE L) i l) % 8 else (k * sw r.length (cE L) i l) % 8) = turn r l L (k + 1) := rowF_congr fun i hi => by rw [if_pos hi]
            rw [e]
            exact i2
  obtain ⟨T, hT, hT0, i1, i2⟩ := loop 7 1 (by omega) (by omega)
  refine ⟨T, hT, hT0, ?_, ?_⟩
  · unfold impl_RepeatsBehind.f
    refine Ev.bind e1 ?_
    simp only [if_true, if_pos (show (0 : Int) ≤ (r.length : Int) ∧ ((r.length : Int)).toNat ≤ 1000000 by omega)]
    exact i1
  · unfold spec_RepeatsBehind.f
    refine Ev.bind e2 ?_
    simp only [if_true, if_pos (show (0 : Int) ≤ (r.length : Int) by omega), Int.toNat_natCast, if_pos (show r.length ≤ 281474976710656 by omega), rowF_rep]
    have e0 : (rowF r.length fun _ => (0 : Int)) = rowF r.length fun i => sw r.length (cE L) i (l.take 0) % 8 := rowF_congr fun i _ => by simp [sw]
    rw [e0]
    refine ev_steps (F := fun q t (s : List Int) => spec_RepeatsBehind.l0 q l L s t) 0 l.length (Nat.zero_le _) (fun t => rowF r.length fun i => sw r.length (cE L) i (l.take t) % 8) (T * L, (0 : Int)) (fun t _ ht hh => ?_) ?_
    · refine Ev.step (fun q => spec_RepeatsBehind.l0.eq_2 _ _ _ _ q) ?_
      have hm := List.getElem_mem ht
      have hf := h.few l[t] hm
      have hrd : rd_T53 l (t : Int) = l[t] := getD_lt ht _
      have hc := cE_bd h hL hm
      have w1 : wrap64 l[t].f1 = l[t].f1 := w_id (by have := hf.f1; omega) (by have := hf.f1; omega)
      have w2 : wrap64 (Int.tdiv L l[t].f1) = cE L l[t] := by rw [tdiv_pos (by omega)]; exact w_id (by unfold cE at hc; omega) (by unfold cE at hc; omega)
      simp only [hrd, w1, w2, if_neg (show ¬ l[t].f1 = 0 by have := hf.f1; omega), if_pos (show (t : Int) < (l.length : Int) by omega), if_pos (show (0 : Int) ≤ (t : Int) by omega)]
      refine Ev.bind (turned_t hn.1 (by omega) (h.good _ hm) _ (fun i _ => by omega) _ hc.1) ?_
      simp only [w_i ht (show l.length ≤ 4611686018427387904 by have := h.l3; omega)]
      have e : (rowF r.length fun i => (sw r.length (cE L) i (l.take t) % 8 + cE L l[t] * vis r.length l[t] i * l[t].f5) % 8) = rowF r.length fun i => sw r.length (cE L) i (l.take (t + 1)) % 8 := rowF_congr fun i _ => by rw [List.take_succ_eq_append_getElem ht, sw_snoc]; omega
      rw [e]
      exact hh
    · refine Ev.step (fun q => spec_RepeatsBehind.l0.eq_2 _ _ _ _ q) ?_
      simp only [if_neg (show ¬ ((l.length : Int) < (l.length : Int)) by omega), List.take_length, Option.bind_some, List.length_nil, Nat.zero_add, rowF_len, List.nil_append, if_pos (show r.length < 140737488355328 by omega)]
      have e : (rowF r.length fun i => sw r.length (cE L) i l % 8) = turn r l L 1 := rowF_congr fun i _ => by rw [Int.one_mul]
      rw [e]
      exact i2
theorem until_add {r : List Int} {l : List W} (h : Dr r l) {L T d : Int} (hT : 0 ≤ T) (hL : 1 ≤ L) (hd : 5 ≤ d) {x : W} (hx : x ∈ l) (hd2 : L % x.f1 = 0) : untilW (d + T * L) x = untilW d x + T * cE L x := by
  have hf := h.few x hx
  have h0 := hf.f0
  have h1 := hf.f1
  have hTL : 0 ≤ T * L := Int.mul_nonneg hT (by omega)
  unfold untilW cE
  rw [if_neg (by omega), if_neg (by omega)]
  have e : d + T * L - x.f0 = d - x.f0 + x.f1 * (T * (L / x.f1)) := by
    have := Int.mul_ediv_cancel' (Int.dvd_of_emod_eq_zero hd2)
    rw [Int.mul_left_comm, this]
    omega
  rw [e, Int.add_mul_ediv_left _ _ (by omega)]
  omega
theorem on_add {x : W} {L d : Int} (h1 : 1 ≤ x.f1) (hd2 : L % x.f1 = 0) (h0 : x.f0 ≤ d) (hL : 0 ≤ L) : onW (d + L) x = onW d x := by
  unfold onW
  rw [decide_eq_true (show x.f0 ≤ d + L by omega), decide_eq_true h0]
  have e : d + L - x.f0 = d - x.f0 + x.f1 * (L / x.f1) := by
    have := Int.mul_ediv_cancel' (Int.dvd_of_emod_eq_zero hd2)
    omega
  rw [e, Int.add_mul_emod_self_left]
theorem sameRow_t (l : List Int) (hl : l.length ≤ 1099511627776) : Ev (fun k => spec_SameRow.f k l l) true := by
  unfold spec_SameRow.f
  simp only [if_true]
  refine ev_steps (F := fun k i (_ : Unit) => spec_SameRow.l0 k l l i) 0 l.length (Nat.zero_le _) (fun _ => ()) true (fun i _ hi h => ?_) ?_
  · refine Ev.step (fun k => spec_SameRow.l0.eq_2 _ _ _ k) ?_
    simp only [if_pos (show (i : Int) < (l.length : Int) by omega), if_pos (show (0 : Int) ≤ (i : Int) by omega), if_true, w_i hi (show l.length ≤ 4611686018427387904 by omega)]
    exact h
  · refine Ev.step (fun k => spec_SameRow.l0.eq_2 _ _ _ k) ?_
    simp only [if_neg (show ¬ ((l.length : Int) < (l.length : Int)) by omega)]
    exact Ev.now _
def dS (d : Int) : List W → Int
  | [] => 0
  | x :: r => (if onW d x = true then x.f4 else 0) + dS d r
theorem dS_snoc (d : Int) (x : W) : ∀ l, dS d (l ++ [x]) = dS d l + (if onW d x = true then x.f4 else 0)
  | [] => by simp [dS]
  | y :: r => by rw [List.cons_append, dS, dS, dS_snoc d x r]; omega
theorem dS_bd {n : Nat} (d : Int) : ∀ l : List W, (∀ x ∈ l, Draw.FewW n x) → 0 ≤ dS d l ∧ dS d l ≤ 6 * l.length
  | [], _ => by simp [dS]
  | x :: r, h => by
    have h1 := dS_bd d r fun y hy => h y (List.mem_cons_of_mem _ hy)
    have h2 := (h x List.mem_cons_self).f4
    rw [dS, List.length_cons]
    split <;> omega
def bm (l : List W) : Nat → Int × Int
  | 0 => (0, -1)
  | j + 1 => if dS j l > (bm l j).2 then ((j : Int), dS j l) else bm l j
theorem bm_ok (l : List W) (hl : ∀ d : Int, 0 ≤ dS d l) : ∀ j : Nat, (∀ d : Nat, d < j → dS d l ≤ (bm l j).2) ∧ (∀ d : Nat, (d : Int) < (bm l j).1 → dS d l < (bm l j).2) ∧ (1 ≤ j → dS (bm l j).1 l = (bm l j).2 ∧ 0 ≤ (bm l j).1 ∧ (bm l j).1 < j)
  | 0 => ⟨fun d hd => by omega, fun d hd => by simp [bm] at hd; omega, fun h => by omega⟩
  | j + 1 => by
    obtain ⟨h1, h2, h3⟩ := bm_ok l hl j
    rw [bm]
    by_cases c : dS j l > (bm l j).2
    · rw [if_pos c]
      refine ⟨fun d hd => ?_, fun d hd => ?_, fun _ => ⟨rfl, by show (0 : Int) ≤ j; omega, by show (j : Int) < (j + 1 : Nat); omega⟩⟩
      · by_cases e : d = j
        · subst e; exact Int.le_refl _
        · have := h1 d (by omega); show dS d l ≤ dS j l; omega
      · have hd2 : (d : Int) < j := hd
        have := h1 d (by omega)
        show dS d l < dS j l
        omega
    · rw [if_neg c]
      refine ⟨fun d hd => ?_, h2, fun _ => ?_⟩
      · by_cases e : d = j
        · subst e; omega
        · exact h1 d (by omega)
      · by_cases e : j = 0
        · subst e
          have := hl 0
          simp [bm] at c
          omega
        · obtain ⟨g1, g2, g3⟩ := h3 (by omega)
          exact ⟨g1, g2, by omega⟩
theorem bm_bd {n : Nat} (l : List W) (hf : ∀ x ∈ l, Draw.FewW n x) : ∀ j : Nat, -1 ≤ (bm l j).2 ∧ (bm l j).2 ≤ 6 * l.length
  | 0 => by simp [bm]; omega
  | j + 1 => by
    have h1 := bm_bd l hf j
    have h2 := dS_bd (n := n) j l hf
    rw [bm]
    split
    · show -1 ≤ dS j l ∧ dS j l ≤ 6 * l.length; omega
    · exact h1
theorem busy_impl {r : List Int} {l : List W} (h : Dr r l) (day : Nat) (hd : day ≤ 44) : Ev (fun k => impl_BusiestDay.f k r.length l 0 day) ((bm l (day + 1)).1, (bm l (day + 1)).2, 0) := by
  unfold impl_BusiestDay.f impl_ValidWalkers.f
  simp only [h.walk, Option.bind_some]
  refine Ev.bind (impl_span_t true 0 day) ?_
  have hz : spanC true 0 (day : Int) = 0 := by
    unfold spanC
    rw [inB_yes (by omega) (by omega), inB_yes (by omega) (by omega), decide_eq_true (show (0 : Int) ≤ day by omega)]
    simp
    omega
  simp only [hz, if_true]
  have h3 := h.l3
  refine ev_steps (F := fun k j (s : Int × Int) => impl_BusiestDay.l0 k l day s.1 s.2 j) 0 (day + 1) (Nat.zero_le _) (fun j => bm l j) ((bm l (day + 1)).1, (bm l (day + 1)).2, (0 : Int)) (fun j _ hj hh => ?_) ?_
  · refine Ev.step (fun k => impl_BusiestDay.l0.eq_2 _ _ _ _ _ k) ?_
    simp only [if_pos (show (j : Int) ≤ (day : Int) by omega)]
    refine ev_steps (F := fun k t (s : Int) => impl_BusiestDay.l1 k l day (bm l j).1 (bm l j).2 j s l (l.length : Int) t) 0 l.length (Nat.zero_le _) (fun t => dS j (l.take t)) ((bm l (day + 1)).1, (bm l (day + 1)).2, (0 : Int)) (fun t _ ht hh2 => ?_) ?_
    · refine Ev.step (fun k => impl_BusiestDay.l1.eq_2 _ _ _ _ _ _ _ _ _ k) ?_
      have hm := List.getElem_mem ht
      have hrd : rd_T53 l (t : Int) = l[t] := getD_lt ht _
      have hb := dS_bd (n := r.length) j (l.take t) fun x hx => h.few x (List.mem_of_mem_take hx)
      rw [List.length_take] at hb
      have h4 := (h.few l[t] hm).f4
      rw [List.take_succ_eq_append_getElem ht, dS_snoc] at hh2
      simp only [hrd, comes_t (h.good _ hm) j (by omega) (by omega), Option.bind_some, if_pos (show (t : Int) < (l.length : Int) by omega), if_pos (show (0 : Int) ≤ (t : Int) by omega), w_i ht (show l.length ≤ 4611686018427387904 by omega), w_id (x := l[t].f4) (by omega) (by omega)]
      cases ho : onW j l[t]
      · rw [ho] at hh2
        simp only [Bool.false_eq_true, if_false, Int.add_zero] at hh2 ⊢
        exact hh2
      · rw [ho] at hh2
        simp only [if_true] at hh2 ⊢
        rw [w_id (by omega) (by omega)]
        exact hh2
    · refine Ev.step (fun k => impl_BusiestDay.l1.eq_2 _ _ _ _ _ _ _ _ _ k) ?_
      simp only [if_neg (show ¬ ((l.length : Int) < (l.length : Int)) by omega), List.take_length, w_i hj (show day + 1 ≤ 4611686018427387904 by omega)]
      rw [bm] at hh
      by_cases c : dS j l > (bm l j).2
      · rw [if_pos c] at hh
        simp only [if_pos c]
        exact hh
      · rw [if_neg c] at hh
        simp only [if_neg c]
        exact hh
  · refine Ev.step (fun k => impl_BusiestDay.l0.eq_2 _ _ _ _ _ k) ?_
    simp only [if_neg (show ¬ (((day + 1 : Nat) : Int) ≤ (day : Int)) by omega)]
    exact Ev.now _
theorem busy_spec {r : List Int} {l : List W} (h : Dr r l) (day : Nat) (hd : day ≤ 44) : Ev (fun k => spec_BusiestDay.f k r.length l 0 day) ((bm l (day + 1)).1, (bm l (day + 1)).2, 0) := by
  unfold spec_BusiestDay.f
  have h3 := h.l3
  simp only [from_t, Option.bind_some]
  refine Ev.bind (asked_t _ l (by omega) _) ?_
  simp only [span_t, Option.bind_some, h.walk]
  have hz : spanC true 0 (day : Int) = 0 := by
    unfold spanC
    rw [inB_yes (by omega) (by omega), inB_yes (by omega) (by omega), decide_eq_true (show (0 : Int) ≤ day by omega)]
    simp
    omega
  simp only [hz, if_true]
  refine ev_steps (F := fun k j (s : Int × Int) => spec_BusiestDay.l0 k l day s.1 s.2 j) 0 (day + 1) (Nat.zero_le _) (fun j => bm l j) ((bm l (day + 1)).1, (bm l (day + 1)).2, (0 : Int)) (fun j _ hj hh => ?_) ?_
  · refine Ev.step (fun k => spec_BusiestDay.l0.eq_2 _ _ _ _ _ k) ?_
    simp only [if_pos (show (j : Int) ≤ (day : Int) by omega)]
    refine ev_steps (F := fun k t (s : Int) => spec_BusiestDay.l1 k l day (bm l j).1 (bm l j).2 j s t) 0 l.length (Nat.zero_le _) (fun t => dS j (l.take t)) ((bm l (day + 1)).1, (bm l (day + 1)).2, (0 : Int)) (fun t _ ht hh2 => ?_) ?_
    · refine Ev.step (fun k => spec_BusiestDay.l1.eq_2 _ _ _ _ _ _ _ k) ?_
      have hm := List.getElem_mem ht
      have hrd : rd_T53 l (t : Int) = l[t] := getD_lt ht _
      have hb := dS_bd (n := r.length) j (l.take t) fun x hx => h.few x (List.mem_of_mem_take hx)
      rw [List.length_take] at hb
      have h4 := (h.few l[t] hm).f4
      rw [List.take_succ_eq_append_getElem ht, dS_snoc] at hh2
      simp only [hrd, spec_on_t (h.good _ hm) j (by omega) (by omega), Option.bind_some, if_pos (show (t : Int) < (l.length : Int) by omega), if_pos (show (0 : Int) ≤ (t : Int) by omega), w_i ht (show l.length ≤ 4611686018427387904 by omega), w_id (x := l[t].f4) (by omega) (by omega)]
      cases ho : onW j l[t]
      · rw [ho] at hh2
        simp only [Bool.false_eq_true, if_false, Int.add_zero] at hh2 ⊢
        exact hh2
      · rw [ho] at hh2
        simp only [if_true] at hh2 ⊢
        rw [w_id (by omega) (by omega)]
        exact hh2
    · refine Ev.step (fun k => spec_BusiestDay.l1.eq_2 _ _ _ _ _ _ _ k) ?_
      simp only [if_neg (show ¬ ((l.length : Int) < (l.length : Int)) by omega), List.take_length, w_i hj (show day + 1 ≤ 4611686018427387904 by omega)]
      rw [bm] at hh
      by_cases c : dS j l > (bm l j).2
      · rw [if_pos c] at hh
        simp only [if_pos c]
        exact hh
      · rw [if_neg c] at hh
        simp only [if_neg c]
        exact hh
  · refine Ev.step (fun k => spec_BusiestDay.l0.eq_2 _ _ _ _ _ k) ?_
    simp only [if_neg (show ¬ (((day + 1 : Nat) : Int) ≤ (day : Int)) by omega)]
    exact Ev.now _
def chk2 (a e : Int) : Bool := match impl_multiple.f 20 a e with
  | some m => decide (1 ≤ m) && decide (m ≤ a * e) && decide (m % a = 0) && decide (m % e = 0)
  | _ => false
theorem chk2_all : ((List.range 6).all fun a => (List.range 6).all fun e => chk2 ((a : Int) + 1) ((e : Int) + 1)) = true := by decide +kernel
theorem common2 (a e : Int) (ha : 1 ≤ a ∧ a ≤ 6) (he : 1 ≤ e ∧ e ≤ 6) : ∃ m : Nat, Ev (fun k => impl_multiple.f k a e) (m : Int) ∧ 1 ≤ m ∧ (m : Int) ≤ a * e ∧ (m : Int) % a = 0 ∧ (m : Int) % e = 0 := by
  have h := List.all_eq_true.1 chk2_all (a - 1).toNat (List.mem_range.2 (by omega))
  have h2 := List.all_eq_true.1 h (e - 1).toNat (List.mem_range.2 (by omega))
  rw [show (((a - 1).toNat : Nat) : Int) + 1 = a by omega, show (((e - 1).toNat : Nat) : Int) + 1 = e by omega] at h2
  unfold chk2 at h2
  cases hm : impl_multiple.f 20 a e with
  | none => simp [hm] at h2
  | some m =>
    simp only [hm, Bool.and_eq_true, decide_eq_true_eq] at h2
    obtain ⟨⟨⟨c1, c2⟩, c3⟩, c4⟩ := h2
    obtain ⟨mn, rfl⟩ := Int.eq_ofNat_of_zero_le (show 0 ≤ m by omega)
    exact ⟨mn, Ev.of (fun k => impl_multiple.mono _ _ k) hm, by omega, c2, c3, c4⟩
def Q (x y : W) (d : Int) : Bool := onW d x && onW d y
def meetR (x y : W) (f : Int) (n : Nat) : Int × Int := match (List.range n).find? (fun k : Nat => Q x y (f + (k : Int))) with | some j => (f + j, 0) | none => (0, 6)
theorem meet_loop_impl {n : Nat} {x y : W} (hx : GoodW n x) (hy : GoodW n y) (f : Int) (h0 : 0 ≤ f) (h1 : f ≤ 100000) (m : Nat) (hm : m ≤ 100000) : Ev (fun k => impl_MeetingDay.l0 k f m 0 x.f0 x.f1 x.f2 x.f3 x.f4 x.f5 y.f0 y.f1 y.f2 y.f3 y.f4 y.f5) (meetR x y f m) := by
  unfold meetR
  have := ev_find (F := fun k i => impl_MeetingDay.l0 k f m i x.f0 x.f1 x.f2 x.f3 x.f4 x.f5 y.f0 y.f1 y.f2 y.f3 y.f4 y.f5) m (fun k : Nat => Q x y (f + (k : Int))) (fun j => (f + (j : Int), (0 : Int))) (0, 6) (fun i hi hp r h => by
    refine Ev.step (fun k => impl_MeetingDay.l0.eq_2 _ _ _ _ _ _ _ _ _ _ _ _ _ _ _ k) ?_
    have hw : wrap64 (f + (i : Int)) = f + i := w_id (by omega) (by omega)
    simp only [hw, if_pos (show (i : Int) < (m : Int) by omega), comes_t hx (f + i) (by omega) (by omega), comes_t hy (f + i) (by omega) (by omega), Option.bind_some, w_i hi (show m ≤ 4611686018427387904 by omega)]
    unfold Q at hp
    cases hq : onW (f + i) x
    · simp only [Bool.false_eq_true, if_false]
      exact h
    · rw [hq, Bool.true_and] at hp
      simp only [hp, if_true, Bool.false_eq_true, if_false]
      exact h) (fun i hi hp => by
    refine Ev.step (fun k => impl_MeetingDay.l0.eq_2 _ _ _ _ _ _ _ _ _ _ _ _ _ _ _ k) ?_
    have hw : wrap64 (f + (i : Int)) = f + i := w_id (by omega) (by omega)
    simp only [hw, if_pos (show (i : Int) < (m : Int) by omega), comes_t hx (f + i) (by omega) (by omega), comes_t hy (f + i) (by omega) (by omega), Option.bind_some]
    unfold Q at hp
    rw [Bool.and_eq_true] at hp
    simp only [hp.1, hp.2, if_true]
    exact Ev.now _) (by
    refine Ev.step (fun k => impl_MeetingDay.l0.eq_2 _ _ _ _ _ _ _ _ _ _ _ _ _ _ _ k) ?_
    simp only [if_neg (show ¬ ((m : Int) < (m : Int)) by omega)]
    exact Ev.now _)
  exact this
theorem meet_loop_spec {n : Nat} {x y : W} (hx : GoodW n x) (hy : GoodW n y) (f : Int) (h0 : 0 ≤ f) (h1 : f ≤ 100000) (m : Nat) (hm : m ≤ 100000) (hp : (m : Int) = x.f1 * y.f1) : Ev (fun k => spec_MeetingDay.l0 k f 0 x.f0 x.f1 x.f2 x.f3 x.f4 x.f5 y.f0 y.f1 y.f2 y.f3 y.f4 y.f5) (meetR x y f m) := by
  unfold meetR
  have hx1 := hx.f1
  have hy1 := hy.f1
  have hc : wrap64 (wrap64 x.f1 * wrap64 y.f1) = (m : Int) := by rw [w_id (x := x.f1) (by omega) (by omega), w_id (x := y.f1) (by omega) (by omega), ← hp]; exact w_id (by omega) (by omega)
  have := ev_find (F := fun k i => spec_MeetingDay.l0 k f i x.f0 x.f1 x.f2 x.f3 x.f4 x.f5 y.f0 y.f1 y.f2 y.f3 y.f4 y.f5) m (fun k : Nat => Q x y (f + (k : Int))) (fun j => (f + (j : Int), (0 : Int))) (0, 6) (fun i hi hp r h => by
    refine Ev.step (fun k => spec_MeetingDay.l0.eq_2 _ _ _ _ _ _ _ _ _ _ _ _ _ _ k) ?_
    have hw : wrap64 (f + (i : Int)) = f + i := w_id (by omega) (by omega)
    simp only [hc, hw, if_pos (show (i : Int) < (m : Int) by omega), spec_on_t hx (f + i) (by omega) (by omega), spec_on_t hy (f + i) (by omega) (by omega), Option.bind_some, w_i hi (show m ≤ 4611686018427387904 by omega)]
    unfold Q at hp
    cases hq : onW (f + i) x
    · simp only [Bool.false_eq_true, if_false]
      exact h
    · rw [hq, Bool.true_and] at hp
      simp only [hp, if_true, Bool.false_eq_true, if_false]
      exact h) (fun i hi hp => by
    refine Ev.step (fun k => spec_MeetingDay.l0.eq_2 _ _ _ _ _ _ _ _ _ _ _ _ _ _ k) ?_
    have hw : wrap64 (f + (i : Int)) = f + i := w_id (by omega) (by omega)
    simp only [hc, hw, if_pos (show (i : Int) < (m : Int) by omega), spec_on_t hx (f + i) (by omega) (by omega), spec_on_t hy (f + i) (by omega) (by omega), Option.bind_some]
    unfold Q at hp
    rw [Bool.and_eq_true] at hp
    simp only [hp.1, hp.2, if_true]
    exact Ev.now _) (by
    refine Ev.step (fun k => spec_MeetingDay.l0.eq_2 _ _ _ _ _ _ _ _ _ _ _ _ _ _ k) ?_
    simp only [hc, if_neg (show ¬ ((m : Int) < (m : Int)) by omega)]
    exact Ev.now _)
  exact this
theorem meet_period {x y : W} {f : Int} {m N : Nat} (h1 : 1 ≤ m) (hN : m ≤ N) (hp : ∀ k : Nat, Q x y (f + ((k + m : Nat) : Int)) = Q x y (f + k)) : meetR x y f N = meetR x y f m ∧ ((List.range m).find? (fun k : Nat => Q x y (f + (k : Int))) = none → ∀ k : Nat, Q x y (f + k) = false) := by
  have none_all : (List.range m).find? (fun k : Nat => Q x y (f + (k : Int))) = none → ∀ k : Nat, Q x y (f + k) = false := by
    intro h k
    rw [List.find?_eq_none] at h
    induction k using Nat.strongRecOn with
    | ind k ih =>
      by_cases hk : k < m
      · have := h k (List.mem_range.2 hk)
        simpa using this
      · have := hp (k - m)
        rw [show k - m + m = k by omega] at this
        rw [this]
        exact ih (k - m) (by omega)
  refine ⟨?_, none_all⟩
  unfold meetR
  cases hf : (List.range m).find? (fun k : Nat => Q x y (f + (k : Int))) with
  | none =>
    have h2 : (List.range N).find? (fun k : Nat => Q x y (f + (k : Int))) = none := by
      rw [List.find?_eq_none]
      intro k _
      simp [none_all hf k]
    rw [h2]
  | some j =>
    have h2 : (List.range N).find? (fun k : Nat => Q x y (f + (k : Int))) = some j := by
      rw [List.find?_range_eq_some] at hf ⊢
      exact ⟨hf.1, List.mem_range.2 (by have := List.mem_range.1 hf.2.1; omega), hf.2.2⟩
    rw [h2]
theorem two_good {n : Nat} {x y : W} (hx : GoodW n x) (hy : GoodW n y) : ∀ z ∈ [x, y], GoodW n z := fun z hz => by
  rcases List.mem_cons.1 hz with e | e
  · rw [e]; exact hx
  · rw [List.mem_singleton.1 e]; exact hy
structure Meet (x y : W) (fr : Int) (t : Int × Int) : Prop where
  h : (t.2 = 0 ∧ Q x y t.1 = true ∧ ∀ d : Int, fr ≤ d → d < t.1 → Q x y d = false) ∨ (t.2 = 6 ∧ t.1 = 0 ∧ ∀ d : Int, fr ≤ d → Q x y d = false)
theorem meet_t {n : Nat} (hn : 1 ≤ n ∧ n ≤ 60) {x y : W} (hx : Draw.FewW n x) (hy : Draw.FewW n y) (fr : Int) (h0 : 0 ≤ fr) (h1 : fr ≤ 19) :
    ∃ t : Int × Int, Meet x y fr t ∧ Ev (fun k => impl_MeetingDay.f k n x.f0 x.f1 x.f2 x.f3 x.f4 x.f5 y.f0 y.f1 y.f2 y.f3 y.f4 y.f5 fr) t ∧ Ev (fun k => spec_MeetingDay.f k n x.f0 x.f1 x.f2 x.f3 x.f4 x.f5 y.f0 y.f1 y.f2 y.f3 y.f4 y.f5 fr) t := by
  have gx := few_good hx
  have gy := few_good hy
  have x0 := hx.f0
  have x1 := hx.f1
  have y0 := hy.f0
  have y1 := hy.f1
  obtain ⟨m, em, hm1, hm2, hmx, hmy⟩ := common2 x.f1 y.f1 x1 y1
  have hprod : 1 ≤ x.f1 * y.f1 ∧ x.f1 * y.f1 ≤ 36 := ⟨by omega, by have := Int.mul_le_mul x1.2 y1.2 (by omega) (by omega); omega⟩
  obtain ⟨N, hN⟩ := Int.eq_ofNat_of_zero_le (show 0 ≤ x.f1 * y.f1 by omega)
  have wx0 : wrap64 x.f0 = x.f0 := w_id (by omega) (by omega)
  have wy0 : wrap64 y.f0 = y.f0 := w_id (by omega) (by omega)
  have wx1 : wrap64 x.f1 = x.f1 := w_id (by omega) (by omega)
  have wy1 : wrap64 y.f1 = y.f1 := w_id (by omega) (by omega)
  obtain ⟨f, hf⟩ : ∃ f : Int, f = max fr (max x.f0 y.f0) := ⟨_, rfl⟩
  have hfb : fr ≤ f ∧ x.f0 ≤ f ∧ y.f0 ≤ f ∧ f ≤ 19 ∧ (f = fr ∨ f = x.f0 ∨ f = y.f0) := by omega
  have hmxm : mx (mx fr x.f0) y.f0 = f := by unfold mx; omega
  have hper : ∀ k : Nat, Q x y (f + ((k + m : Nat) : Int)) = Q x y (f + k) := fun k => by
    unfold Q
    rw [show f + ((k + m : Nat) : Int) = f + k + m by omega, on_add x1.1 hmx (by omega) (by omega), on_add y1.1 hmy (by omega) (by omega)]
  obtain ⟨hsame, hnone⟩ := meet_period (N := N) hm1 (by omega) hper
  refine ⟨meetR x y f m, ⟨?_⟩, ?_, ?_⟩
  · unfold meetR
    have low : ∀ d : Int, fr ≤ d → d < f → Q x y d = false := fun d hd hd2 => by
      unfold Q onW
      rcases hfb.2.2.2.2 with e | e | e
      · omega
      · rw [decide_eq_false (show ¬ x.f0 ≤ d by omega)]; rfl
      · rw [decide_eq_false (show ¬ y.f0 ≤ d by omega), Bool.false_and, Bool.and_false]
    cases hfi : (List.range m).find? (fun k : Nat => Q x y (f + (k : Int))) with
    | none =>
      right
      refine ⟨rfl, rfl, fun d hd => ?_⟩
      by_cases hd2 : d < f
      · exact low d hd hd2
      · have := hnone hfi (d - f).toNat
        rwa [show f + ((d - f).toNat : Int) = d by omega] at this
    | some j =>
      left
      rw [List.find?_range_eq_some] at hfi
      refine ⟨rfl, hfi.1, fun d hd hd2 => ?_⟩
      by_cases hd3 : d < f
      · exact low d hd hd3
      · have hd4 : d < f + j := hd2
        have := hfi.2.2 (d - f).toNat (by omega)
        rw [show f + ((d - f).toNat : Int) = d by omega] at this
        simpa using this
  · unfold impl_MeetingDay.f impl_ValidWalkers.f
    rw [show ([⟨x.f0, x.f1, x.f2, x.f3, x.f4, x.f5⟩, ⟨y.f0, y.f1, y.f2, y.f3, y.f4, y.f5⟩] : List W) = [x, y] from rfl, walkersB_yes hn (by simp) (two_good gx gy)]
    simp only [isDay_t, allB_one, inB_yes h0 (show fr ≤ 10000 by omega), codeOf_t, askC, Option.bind_some, if_true, wx0, wy0, wx1, wy1, hmxm]
    exact Ev.bind em (meet_loop_impl gx gy f (by omega) (by omega) m (by omega))
  · unfold spec_MeetingDay.f spec_l00Max.f
    rw [show ([⟨x.f0, x.f1, x.f2, x.f3, x.f4, x.f5⟩, ⟨y.f0, y.f1, y.f2, y.f3, y.f4, y.f5⟩] : List W) = [x, y] from rfl]
    simp only [day_t, Option.bind_some, inB_yes h0 (show fr ≤ 10000 by omega)]
    refine Ev.bind (asked_t n [x, y] (by simp) true) ?_
    rw [walkersB_yes hn (by simp) (two_good gx gy)]
    have e1 : (if x.f0 > y.f0 then some x.f0 else some y.f0) = some (max x.f0 y.f0) := by by_cases c : x.f0 > y.f0 <;> simp only [c, if_true, if_false] <;> congr 1 <;> omega
    have e2 : (if fr > max x.f0 y.f0 then some fr else some (max x.f0 y.f0)) = some f := by by_cases c : fr > max x.f0 y.f0 <;> simp only [c, if_true, if_false] <;> congr 1 <;> omega
    simp only [askC, if_true, wx0, wy0, e1, Option.bind_some, e2]
    rw [← hsame]
    exact meet_loop_spec gx gy f (by omega) (by omega) N (by omega) (by omega)
theorem l4_ok {n : Nat} (hn : 1 ≤ n ∧ n ≤ 60) {l : List W} (h2 : 2 ≤ l.length) (hx : Draw.FewW n (l.getD 0 z53)) (hy : Draw.FewW n (l.getD 1 z53)) (fr : Nat) (h1 : fr ≤ 19) (t : Int × Int) (ht : Meet (l.getD 0 z53) (l.getD 1 z53) fr t) : Ev (fun k => laws_FnRepeats.l4 k n l fr t.2 t.1 fr) true := by
  have r0 : rd_T53 l 0 = l.getD 0 z53 := rfl
  have r1 : rd_T53 l 1 = l.getD 1 z53 := rfl
  generalize l.getD 0 z53 = x at hx ht r0
  generalize l.getD 1 z53 = y at hy ht r1
  have w60 : wrap64 ((fr : Int) + 60) = fr + 60 := w_id (by omega) (by omega)
  have key := ev_steps (F := fun k i (_ : Unit) => laws_FnRepeats.l4 k n l fr t.2 t.1 (fr + i)) 0 60 (Nat.zero_le _) (fun _ => ()) true (fun i _ hi hh => by
    refine Ev.step (fun k => laws_FnRepeats.l4.eq_2 _ _ _ _ _ _ k) ?_
    have hw : wrap64 ((fr : Int) + (i : Int) + 1) = (fr : Int) + ((i + 1 : Nat) : Int) := by rw [w_id (by omega) (by omega)]; omega
    simp only [w60, hw, r0, r1, if_pos (show (fr : Int) + (i : Int) < fr + 60 by omega), if_pos (show (0 : Int) < (l.length : Int) by omega), if_pos (show (1 : Int) < (l.length : Int) by omega)]
    refine Ev.bind (specOn_t hn (few_good hx) (fr + i) (by omega) (by omega)) ?_
    refine Ev.bind (specOn_t hn (few_good hy) (fr + i) (by omega) (by omega)) ?_
    simp only [if_true]
    rcases ht.h with ⟨e0, q1, q2⟩ | ⟨e0, e1, q2⟩
    · rw [e0] at hh
      simp only [e0, if_true]
      cases ha : onW (fr + i) x
      · simp only [Bool.false_eq_true, if_false]
        have ne : ¬ (fr : Int) + i = t.1 := fun e => by unfold Q at q1; rw [← e, ha, Bool.false_and] at q1; cases q1
        simp only [if_neg ne]
        exact hh
      · cases hb : onW (fr + i) y
        · simp only [Bool.false_eq_true, if_false, if_true]
          have ne : ¬ (fr : Int) + i = t.1 := fun e => by unfold Q at q1; rw [← e, hb, Bool.and_false] at q1; cases q1
          simp only [if_neg ne]
          exact hh
        · simp only [if_true]
          have nl : ¬ (fr : Int) + i < t.1 := fun hlt => by have := q2 (fr + i) (by omega) hlt; unfold Q at this; rw [ha, hb] at this; cases this
          simp only [if_neg nl]
          by_cases e : (fr : Int) + i = t.1
          · simp only [if_pos e]; exact hh
          · simp only [if_neg e]; exact hh
    · have h6 : ¬ t.2 = 0 := by omega
      have hq := q2 (fr + i) (by omega)
      unfold Q at hq
      cases ha : onW (fr + i) x
      · simp only [Bool.false_eq_true, if_false, if_neg h6]
        exact hh
      · rw [ha, Bool.true_and] at hq
        simp only [hq, Bool.false_eq_true, if_false, if_true, if_neg h6]
        exact hh) (by
    refine Ev.step (fun k => laws_FnRepeats.l4.eq_2 _ _ _ _ _ _ k) ?_
    simp only [w60, if_neg (show ¬ ((fr : Int) + ((60 : Nat) : Int) < fr + 60) by omega)]
    exact Ev.now _)
  simpa using key
theorem l3_ok {r : List Int} {l : List W} (h : Dr r l) (b : List Int) (day j : Nat) (hd : day ≤ 44) (hj : j ≤ day) (hn : Ev (fun k => laws_FnRepeats.l2 k b r.length l day (bm l (day + 1)).1 (bm l (day + 1)).2 ((j + 1 : Nat) : Int)) true) : Ev (fun k => laws_FnRepeats.l3 k b r.length l day (bm l (day + 1)).1 (bm l (day + 1)).2 j 0 0) true := by
  have h3 := h.l3
  have hnn := h.n
  obtain ⟨q1, q2, q3⟩ := bm_ok l (fun d => (dS_bd (n := r.length) d l h.few).1) (day + 1)
  obtain ⟨q3, q4, q5⟩ := q3 (by omega)
  refine ev_steps (F := fun k t (s : Int) => laws_FnRepeats.l3 k b r.length l day (bm l (day + 1)).1 (bm l (day + 1)).2 j s t) 0 l.length (Nat.zero_le _) (fun t => dS j (l.take t)) true (fun t _ ht hh2 => ?_) ?_
  · refine Ev.step (fun k => laws_FnRepeats.l3.eq_2 _ _ _ _ _ _ _ _ _ k) ?_
    have hm := List.getElem_mem ht
    have hrd : rd_T53 l (t : Int) = l[t] := getD_lt ht _
    have hb := dS_bd (n := r.length) j (l.take t) fun x hx => h.few x (List.mem_of_mem_take hx)
    rw [List.length_take] at hb
    have h4 := (h.few l[t] hm).f4
    rw [List.take_succ_eq_append_getElem ht, dS_snoc] at hh2
    simp only [hrd, if_pos (show (t : Int) < (l.length : Int) by omega), if_pos (show (0 : Int) ≤ (t : Int) by omega)]
    refine Ev.bind (specOn_t (by omega) (h.good _ hm) j (by omega) (by omega)) ?_
    simp only [if_true, w_i ht (show l.length ≤ 4611686018427387904 by omega), w_id (x := l[t].f4) (by omega) (by omega)]
    cases ho : onW j l[t]
    · rw [ho] at hh2
      simp only [Bool.false_eq_true, if_false, Int.add_zero] at hh2 ⊢
      exact hh2
    · rw [ho] at hh2
      simp only [if_true] at hh2 ⊢
      rw [w_id (by omega) (by omega)]
      exact hh2
  · refine Ev.step (fun k => laws_FnRepeats.l3.eq_2 _ _ _ _ _ _ _ _ _ k) ?_
    have c1 := q1 j (by omega)
    simp only [if_neg (show ¬ ((l.length : Int) < (l.length : Int)) by omega), List.take_length, if_neg (show ¬ dS j l > (bm l (day + 1)).2 by omega), w_i (show j < day + 1 by omega) (show day + 1 ≤ 4611686018427387904 by omega)]
    by_cases e1 : (j : Int) < (bm l (day + 1)).1
    · have c2 := q2 j e1
      simp only [if_pos e1, if_neg (show ¬ dS j l ≥ (bm l (day + 1)).2 by omega), if_neg (show ¬ (j : Int) = (bm l (day + 1)).1 by omega)]
      exact hn
    · simp only [if_neg e1]
      by_cases e2 : (j : Int) = (bm l (day + 1)).1
      · have c3 : dS j l = (bm l (day + 1)).2 := by rw [e2]; exact q3
        simp only [if_pos e2, if_pos c3]
        exact hn
      · simp only [if_neg e2]
        exact hn
theorem l2_ok {r : List Int} {l : List W} (h : Dr r l) (b : List Int) (hb : Draw.CodeOk b) (day : Nat) (hd : day ≤ 44) : Ev (fun k => laws_FnRepeats.l2 k b r.length l day (bm l (day + 1)).1 (bm l (day + 1)).2 0) true := by
  refine ev_steps (F := fun k i (_ : Unit) => laws_FnRepeats.l2 k b r.length l day (bm l (day + 1)).1 (bm l (day + 1)).2 i) 0 (day + 1) (Nat.zero_le _) (fun _ => ()) true (fun j _ hj hh => ?_) ?_
  · refine Ev.step (fun k => laws_FnRepeats.l2.eq_2 _ _ _ _ _ _ _ k) ?_
    simp only [if_pos (show (j : Int) ≤ (day : Int) by omega)]
    exact l3_ok h b day j hd (by omega) hh
  · refine Ev.step (fun k => laws_FnRepeats.l2.eq_2 _ _ _ _ _ _ _ k) ?_
    simp only [if_neg (show ¬ (((day + 1 : Nat) : Int) ≤ (day : Int)) by omega)]
    by_cases h2 : (l.length : Int) < 2
    · simp only [if_pos h2]; exact Ev.now _
    · simp only [if_neg h2]
      obtain ⟨v, e, v0, v1⟩ := Draw.p6pick_t hb 20
      obtain ⟨fr, rfl⟩ := Int.eq_ofNat_of_zero_le v0
      have r0 : rd_T53 l 0 = l.getD 0 z53 := rfl
      have r1 : rd_T53 l 1 = l.getD 1 z53 := rfl
      have hx : Draw.FewW r.length (l.getD 0 z53) := by rw [getD_lt (show 0 < l.length by omega)]; exact h.few _ (List.getElem_mem _)
      have hy : Draw.FewW r.length (l.getD 1 z53) := by rw [getD_lt (show 1 < l.length by omega)]; exact h.few _ (List.getElem_mem _)
      have hnn := h.n
      obtain ⟨t, ht, e1, e2⟩ := meet_t (by omega) hx hy fr (by omega) (by omega)
      have fin := l4_ok (by omega) (show 2 ≤ l.length by omega) hx hy fr (by omega) t ht
      simp only [e, Option.bind_some, if_pos (show (0 : Int) < (l.length : Int) by omega), if_pos (show (1 : Int) < (l.length : Int) by omega), r0, r1]
      refine Ev.bind e1 ?_
      refine Ev.bind e2 ?_
      simp only [if_true]
      rcases ht.h with ⟨z, _⟩ | ⟨z, _⟩
      · simp only [if_pos z]
        refine Ev.step (fun k => laws_FnRepeats.j9.eq_2 _ _ _ _ _ _ k) ?_
        simp only [Bool.false_eq_true, if_false]
        exact fin
      · have z0 : ¬ t.2 = 0 := by omega
        have zb : (t.2 != 6) = false := by rw [z]; rfl
        simp only [if_neg z0, zb]
        refine Ev.step (fun k => laws_FnRepeats.j9.eq_2 _ _ _ _ _ _ k) ?_
        simp only [Bool.false_eq_true, if_false]
        exact fin
theorem l0_ok {r : List Int} {l : List W} (h : Dr r l) (b : List Int) (hb : Draw.CodeOk b) (day : Nat) (hd : day ≤ 44) {L : Int} (hL : 1 ≤ L ∧ L ≤ 60) (hx : ∀ x ∈ l, L % x.f1 = 0) : Ev (fun k => laws_FnRepeats.l0 k b r.length l L day 0) true := by
  have h3 := h.l3
  have hnn := h.n
  refine ev_steps (F := fun k i (_ : Unit) => laws_FnRepeats.l0 k b r.length l L day i) 0 l.length (Nat.zero_le _) (fun _ => ()) true (fun t _ ht hh => ?_) ?_
  · refine Ev.step (fun k => laws_FnRepeats.l0.eq_2 _ _ _ _ _ _ k) ?_
    simp only [if_pos (show (t : Int) < (l.length : Int) by omega)]
    have hm := List.getElem_mem ht
    have hf := h.few l[t] hm
    have hg := h.good l[t] hm
    have hrd : rd_T53 l (t : Int) = l[t] := getD_lt ht _
    have hxt := hx l[t] hm
    have u0 : untilW (-1) l[t] = 0 := by unfold untilW; rw [if_pos (by have := hf.f0; omega)]
    have key := ev_steps (F := fun k d (c : Int) => laws_FnRepeats.l1 k b r.length l L day t c d) 0 (day + 1) (Nat.zero_le _) (fun d => untilW ((d : Int) - 1) l[t]) true (fun d _ hdd hh2 => by
      refine Ev.step (fun k => laws_FnRepeats.l1.eq_2 _ _ _ _ _ _ _ _ k) ?_
      have hw : wrap64 ((d : Int) + L) = d + L := w_id (by omega) (by omega)
      have w0 : wrap64 l[t].f0 = l[t].f0 := w_id (by have := hf.f0; omega) (by have := hf.f0; omega)
      have hnext := untilW_next hg ((d : Int) - 1)
      rw [show (d : Int) - 1 + 1 = d by omega] at hnext
      have hub : 0 ≤ untilW ((d : Int) - 1) l[t] ∧ untilW ((d : Int) - 1) l[t] ≤ 100 := by
        by_cases e : d = 0
        · subst e
          rw [show ((0 : Nat) : Int) - 1 = -1 by omega, u0]
          omega
        · have := untilW_bd hg ((d : Int) - 1) (by omega)
          omega
      rw [show ((d + 1 : Nat) : Int) - 1 = d by omega] at hh2
      simp only [hrd, hw, w0, if_pos (show (d : Int) ≤ (day : Int) by omega), if_pos (show (0 : Int) ≤ (t : Int) by omega), if_pos (show (t : Int) < (l.length : Int) by omega), walksOn_t (show 1 ≤ r.length ∧ r.length ≤ 60 by omega) hg (d : Int) (by omega) (by omega), walksOn_t (show 1 ≤ r.length ∧ r.length ≤ 60 by omega) hg (d + L) (by omega) (by omega), walksUntil_t (show 1 ≤ r.length ∧ r.length ≤ 60 by omega) hg (d : Int) (by omega) (by omega), Option.bind_some, if_true]
      have j5 : Ev (fun k => laws_FnRepeats.j5 k b r.length l L day t (untilW ((d : Int) - 1) l[t]) d (onW d l[t]) (untilW d l[t]) false) true := by
        refine Ev.step (fun k => laws_FnRepeats.j5.eq_2 _ _ _ _ _ _ _ _ _ _ _ k) ?_
        simp only [Bool.false_eq_true, if_false, w_i hdd (show day + 1 ≤ 4611686018427387904 by omega)]
        unfold onI at hnext
        cases ho : onW d l[t]
        · rw [ho] at hnext
          simp only [Bool.false_eq_true, if_false, Int.add_zero] at hnext ⊢
          rw [hnext] at hh2 ⊢
          simp only [if_true]
          exact hh2
        · rw [ho] at hnext
          simp only [if_true] at hnext ⊢
          have hw1 : wrap64 (untilW ((d : Int) - 1) l[t] + 1) = untilW ((d : Int) - 1) l[t] + 1 := w_id (by omega) (by omega)
          rw [hnext] at hh2 ⊢
          simp only [hw1, if_true]
          exact hh2
      by_cases hge : (d : Int) ≥ l[t].f0
      · have e : (onW d l[t] != onW (d + L) l[t]) = false := by rw [on_add hf.f1.1 hxt hge (by omega)]; exact bne_self _
        simp only [if_pos hge, e]
        exact j5
      · simp only [if_neg hge]
        exact j5) (by
      refine Ev.step (fun k => laws_FnRepeats.l1.eq_2 _ _ _ _ _ _ _ _ k) ?_
      simp only [if_neg (show ¬ (((day + 1 : Nat) : Int) ≤ (day : Int)) by omega), w_i ht (show l.length ≤ 4611686018427387904 by omega)]
      exact hh)
    simp only [show ((0 : Nat) : Int) - 1 = -1 by omega, u0] at key
    exact key
  · refine Ev.step (fun k => laws_FnRepeats.l0.eq_2 _ _ _ _ _ _ k) ?_
    simp only [if_neg (show ¬ ((l.length : Int) < (l.length : Int)) by omega)]
    refine Ev.bind (busy_impl h day hd) ?_
    refine Ev.bind (busy_spec h day hd) ?_
    simp only [if_true, bne_self]
    refine Ev.step (fun k => laws_FnRepeats.j6.eq_2 _ _ _ _ _ _ _ k) ?_
    simp only [Bool.false_eq_true, if_false]
    exact l2_ok h b hb day hd
theorem FnRepeats : SayFnRepeats.Pure := by
  intro a b _ ca _ cb
  refine Ev.rounds (?_ : Ev (fun k => laws_FnRepeats.f k a b) true)
  have hca : Draw.CodeOk a := fun x hx => ca x hx
  have hcb : Draw.CodeOk b := fun x hx => cb x hx
  have j0t : Ev (fun k => laws_FnRepeats.j0 k a b true) true := by
    refine Ev.step (fun k => laws_FnRepeats.j0.eq_2 _ _ _ k) ?_
    simp only [if_true]
    exact Ev.now _
  have j0f : Ev (fun k => laws_FnRepeats.j0 k a b false) true := by
    refine Ev.step (fun k => laws_FnRepeats.j0.eq_2 _ _ _ k) ?_
    simp only [Bool.false_eq_true, if_false]
    obtain ⟨r, hr, hr7, er⟩ := Draw.row_t hca
    obtain ⟨l, hl, hf, el⟩ := Draw.walkers_t hcb r.length (by omega) (by omega)
    have h : Dr r l := ⟨hr, fun i => by
      by_cases hi : i < r.length
      · rw [getD_lt hi]; exact hr7 _ (List.getElem_mem hi)
      · have e : r.getD i 0 = 0 := by simp [List.getD, List.getElem?_eq_none (show r.length ≤ i by omega)]
        omega, hl, hf⟩
    obtain ⟨L, hL, hLx, e1, e2⟩ := every_t h
    obtain ⟨T, hT, hT0, e3, e4⟩ := repeats_t h hL hLx e1 e2
    have hTL : 0 ≤ T * L ∧ T * L ≤ 480 := ⟨Int.mul_nonneg (by omega) (by omega), by have := Int.mul_le_mul hT.2 hL.2 (by omega) (by omega); omega⟩
    have hT8 : T * L ≤ 8 * L := Int.mul_le_mul_of_nonneg_right hT.2 (by omega)
    refine Ev.bind er (Ev.bind el (Ev.bind e1 (Ev.bind e2 (Ev.bind e3 (Ev.bind e4 ?_)))))
    have hmod : Int.tmod (T * L) L = 0 := by rw [tmod_pos hTL.1]; exact Int.mul_emod_left _ _
    simp only [if_true, if_neg (show ¬ L < 1 by omega), if_neg (show ¬ L = 0 by omega), hmod, w_id (x := 8 * L) (by omega) (by omega), decide_eq_false (show ¬ T * L > 8 * L by omega)]
    refine Ev.step (fun k => laws_FnRepeats.j1.eq_2 _ _ _ _ _ _ _ _ k) ?_
    simp only [Bool.false_eq_true, if_false]
    obtain ⟨v, ev, v0, v1⟩ := Draw.p6pick_t hca 40
    obtain ⟨dn, rfl⟩ := Int.eq_ofNat_of_zero_le v0
    have hw1 : wrap64 (5 + (dn : Int)) = ((5 + dn : Nat) : Int) := by rw [w_id (by omega) (by omega)]; omega
    have hw2 : wrap64 (((5 + dn : Nat) : Int) + T * L) = ((5 + dn : Nat) : Int) + T * L := w_id (by omega) (by omega)
    simp only [ev, Option.bind_some, hw1, hw2]
    refine Ev.bind (rowOnI_t h ((5 + dn : Nat) : Int) (by omega) (by omega)) ?_
    refine Ev.bind (rowOnI_t h (((5 + dn : Nat) : Int) + T * L) (by omega) (by omega)) ?_
    have same : behindL r l (untilW (((5 + dn : Nat) : Int) + T * L)) = behindL r l (untilW ((5 + dn : Nat) : Int)) := by
      unfold behindL
      refine rowF_congr fun i hi => ?_
      have e := sw_congr r.length (c := untilW (((5 + dn : Nat) : Int) + T * L)) (d := fun x => untilW ((5 + dn : Nat) : Int) x + T * cE L x) i l fun x hx => until_add h (by omega) hL.1 (by omega) hx (hLx x hx)
      rw [e, sw_add, sw_mul]
      have := hT0 i hi
      omega
    rw [same]
    simp only [if_true, behindL_len]
    refine Ev.bind (sameRow_t (behindL r l (untilW ((5 + dn : Nat) : Int))) (by rw [behindL_len]; omega)) ?_
    simp only [Bool.not_true]
    refine Ev.step (fun k => laws_FnRepeats.j2.eq_2 _ _ _ _ _ _ k) ?_
    simp only [Bool.false_eq_true, if_false]
    exact l0_ok h b hcb (5 + dn) (by omega) hL hLx
  unfold laws_FnRepeats.f laws_f6big.f
  simp only [Option.bind_some]
  by_cases c1 : decide ((a.length : Int) > 4096) = true
  · simp only [if_pos c1]
    exact j0t
  · simp only [if_neg c1]
    cases decide ((b.length : Int) > 4096)
    · exact j0f
    · exact j0t
end Go.Proofs.Ythbblaapmmhclaa.PureFnRepeats
