/- FnExactStrangeTaster: the program's strangest taster is the reference's, for all samples and marks. No condition. -/
import Derived.Test.YtngpjamojkneeaaSayFnExactStrangeTaster
import Derived.Test.YtngpjamojkneeaaFHpMarks
import Derived.Test.YtngpjamojkneeaaFLibPairs
import Derived.Test.YtngpjamojkneeaaFBestEq
namespace Go.Proofs.Ytngpjamojkneeaa.PureFnExactStrangeTaster
open Go.RowKit Go.Proofs.YtngpjamojkneeaaW.PrintWords Go.Proofs.Ytngpjamojkneeaa.G Go.Proofs.Ytngpjamojkneeaa.SayFnExactStrangeTaster Go.Proofs.Ytngpjamojkneeaa.Wk Go.Proofs.Ytngpjamojkneeaa.Pl
set_option linter.unusedSimpArgs false
set_option linter.unusedVariables false

theorem sums (q n : Nat) (hq2 : q ≤ 8) (hn : n ≤ 8) (t : List (List Int)) (ht : Sq q t) (hB : Best.Bd 768 t) (l : List Int) (hl : l.length = n) (hel : ∀ i, i < n → ∃ a : Nat, l.getD i 0 = a ∧ a < q) : ∃ r : Int, 0 ≤ r ∧ Ev (fun k => spec_l07Agreement.f k t l) r ∧ Ev (fun k => impl_agreement.f k t l) r := by
  have key : ∀ d (i : Nat) (acc : Int), i + d = n → 0 ≤ acc → acc ≤ 6144 * (i : Int) → ∃ r : Int, 0 ≤ r ∧ Ev (fun k => spec_l07Agreement.l0 k t l acc i) r ∧ Ev (fun k => impl_agreement.l0 k t l acc l n i) r := by
    intro d
    induction d with
    | zero =>
      intro i acc hi hc0 hc1
      obtain rfl : i = n := by omega
      refine ⟨acc, hc0, Ev.step (fun k => spec_l07Agreement.l0.eq_2 _ _ _ _ k) ?_, Ev.step (fun k => impl_agreement.l0.eq_2 _ _ _ _ _ _ k) ?_⟩
      · simp only [hl, if_neg (show ¬ ((i : Int) < (i : Int)) by omega)]
        exact Ev.now _
      · simp only [if_neg (show ¬ ((i : Int) < (i : Int)) by omega)]
        exact Ev.now _
    | succ d ih =>
      intro i acc hi hc0 hc1
      have hi1 : i < n := by omega
      obtain ⟨a, ha, haq⟩ := hel i hi1
      have hdl : (l.drop (i + 1)).length = n - (i + 1) := by rw [List.length_drop, hl]
      have key1 : ∀ e (p : Nat) (acc : Int), i + 1 + p + e = n → 0 ≤ acc → acc ≤ 6144 * (i : Int) + 768 * (p : Int) → ∃ r : Int, 0 ≤ r ∧ Ev (fun k => spec_l07Agreement.l1 k t l acc i ((i + 1 + p : Nat) : Int)) r ∧ Ev (fun k => impl_agreement.l1 k t l acc a l n i (l.drop (i + 1)) ((n - (i + 1) : Nat) : Int) p) r := by
        intro e
        induction e with
        | zero =>
          intro p acc hp ha0 ha1
          obtain ⟨r, h0, h1, h2⟩ := ih (i + 1) acc (by omega) ha0 (by omega)
          refine ⟨r, h0, Ev.step (fun k => spec_l07Agreement.l1.eq_2 _ _ _ _ _ k) ?_, Ev.step (fun k => impl_agreement.l1.eq_2 _ _ _ _ _ _ _ _ _ _ k) ?_⟩
          · simp only [hl, if_neg (show ¬ (((i + 1 + p : Nat) : Int) < (n : Int)) by omega), w_i hi1 (show n ≤ 4611686018427387904 by omega)]
            exact h1
          · simp only [if_neg (show ¬ ((p : Int) < ((n - (i + 1) : Nat) : Int)) by omega), w_i hi1 (show n ≤ 4611686018427387904 by omega)]
            exact h2
        | succ e ih2 =>
          intro p acc hp ha0 ha1
          have hj1 : i + 1 + p < n := by omega
          obtain ⟨b, hb, hbq⟩ := hel (i + 1 + p) hj1
          have hd : (l.drop (i + 1)).getD p 0 = b := by rw [← hb]; simp [List.getD, List.getElem?_drop]
          have hx := hB a b
          have hww : wrap64 (acc + (t.getD a []).getD b 0) = acc + (t.getD a []).getD b 0 := Go.IntWalk.wrap64_in _ ⟨by omega, by omega⟩
          obtain ⟨r, h0, h1, h2⟩ := ih2 (p + 1) (wrap64 (acc + (t.getD a []).getD b 0)) (by omega) (by rw [hww]; omega) (by rw [hww]; omega)
          clear hww
          refine ⟨r, h0, Ev.step (fun k => spec_l07Agreement.l1.eq_2 _ _ _ _ _ k) ?_, Ev.step (fun k => impl_agreement.l1.eq_2 _ _ _ _ _ _ _ _ _ _ k) ?_⟩
          · simp only [hl, rd_nat, ha, hb, rdL_nat, if_pos (show (((i + 1 + p : Nat) : Int) < (n : Int)) by omega), if_pos (show (0 : Int) ≤ (i : Int) by omega), if_pos (show (i : Int) < (n : Int) by omega), if_pos (show (0 : Int) ≤ (a : Int) by omega), if_pos (show (a : Int) < (t.length : Int) by rw [ht.1]; omega), if_pos (show (0 : Int) ≤ ((i + 1 + p : Nat) : Int) by omega), if_pos (show (0 : Int) ≤ (b : Int) by omega), if_pos (show (b : Int) < ((t.getD a []).length : Int) by rw [ht.2 a haq]; omega), w_i hj1 (show n ≤ 4611686018427387904 by omega)]
            exact h1
          · simp only [hdl, rd_nat, hd, rdL_nat, if_pos (show (p : Int) < ((n - (i + 1) : Nat) : Int) by omega), if_pos (show (0 : Int) ≤ (p : Int) by omega), if_pos (show (0 : Int) ≤ (a : Int) by omega), if_pos (show (a : Int) < (t.length : Int) by rw [ht.1]; omega), if_pos (show (0 : Int) ≤ (b : Int) by omega), if_pos (show (b : Int) < ((t.getD a []).length : Int) by rw [ht.2 a haq]; omega), w_i (show p < n by omega) (show n ≤ 4611686018427387904 by omega)]
            exact h2
      obtain ⟨r, h0, h1, h2⟩ := key1 (n - (i + 1)) 0 acc (by omega) hc0 (by omega)
      refine ⟨r, h0, Ev.step (fun k => spec_l07Agreement.l0.eq_2 _ _ _ _ k) ?_, Ev.step (fun k => impl_agreement.l0.eq_2 _ _ _ _ _ _ k) ?_⟩
      · simp only [hl, if_pos (show (i : Int) < (n : Int) by omega), w_i hi1 (show n ≤ 4611686018427387904 by omega)]
        exact h1
      · simp only [hl, rd_nat, ha, if_pos (show (i : Int) < (n : Int) by omega), if_pos (show (0 : Int) ≤ (i : Int) by omega), w_i hi1 (show n ≤ 4611686018427387904 by omega), if_pos (show (0 : Int) ≤ ((i + 1 : Nat) : Int) by omega), if_pos (show ((i + 1 : Nat) : Int) ≤ (n : Int) by omega), Int.toNat_natCast, hdl]
        exact h2
  unfold spec_l07Agreement.f impl_agreement.f
  rw [hl]
  exact key n 0 0 (by omega) (Int.le_refl _) (Int.le_refl _)
theorem ord_mem {pr : List (List Int)} {q : Nat} {xs : List Int} : ∀ {f s : Nat} {l : List Int}, Best.ordO pr q xs f s = some l → ∀ i, i < l.length → ∃ a : Nat, l.getD i 0 = a ∧ a < q := by
  intro f
  induction f with
  | zero =>
    intro s l h i hi
    simp only [Best.ordO] at h
    split at h
    · cases h; simp at hi
    · cases h
  | succ f ih =>
    intro s l h i hi
    by_cases h0 : s = 0
    · subst h0
      rw [Best.ordO_zero h] at hi
      simp at hi
    · obtain ⟨f', j, l', hf, hj, -, -, ho, rfl⟩ := Best.ordO_step h (by omega)
      obtain rfl : f' = f := by omega
      cases i with
      | zero => exact ⟨j, rfl, hj⟩
      | succ i =>
        obtain ⟨a, h1, h2⟩ := ih ho i (by simpa using hi)
        exact ⟨a, by simpa using h1, h2⟩
theorem cut_one (m : List (List Int)) (t : Nat) (h : t < m.length) : (m.take (t + 1)).drop t = [m.getD t []] := by
  apply List.ext_getElem?
  intro i
  rw [List.getElem?_drop, List.getElem?_take]
  cases i with
  | zero => simp [List.getD, h]
  | succ i => simp
theorem loops (q : Nat) (hq : q ≤ 8) (m : List (List Int)) (hm : m.length ≤ 12) (hrow : ∀ i : Nat, i < m.length → (m.getD i []).length = q) (o : List Int) (ho : o.length ≤ 8) (hel : ∀ i, i < o.length → ∃ a : Nat, o.getD i 0 = a ∧ a < q) (hm1 : 1 ≤ m.length) :
    ∃ r, Ev (fun k => spec_StrangeTaster.l0 k q m o 0 (-1) 0) r ∧ Ev (fun k => impl_StrangeTaster.l0 k q o (-1) 0 m m.length 0) r := by
  have own : ∀ t : Nat, t < m.length → ∃ r : Int, 0 ≤ r ∧ (Ev (fun k => spec_l07Pairs.f k q ((m.take (t + 1)).drop t)) (pairsL q [m.getD t []]) ∧ Ev (fun k => spec_l07Agreement.f k (pairsL q [m.getD t []]) o) r) ∧ (Ev (fun k => impl_pairs.f k q [m.getD t []]) (pairsL q [m.getD t []]) ∧ Ev (fun k => impl_agreement.f k (pairsL q [m.getD t []]) o) r) := by
    intro t ht
    have hr1 : ∀ i : Nat, i < [m.getD t []].length → ([m.getD t []].getD i []).length = q := by
      intro i hi
      obtain rfl : i = 0 := by simpa using hi
      simpa using hrow t ht
    obtain ⟨r, h0, h1, h2⟩ := sums q o.length hq ho (pairsL q [m.getD t []]) (pairsL_sq q _) (Best.pairs_bd q _ hq (by simp)) o rfl hel
    refine ⟨r, h0, ⟨?_, h1⟩, impl_pairs_tells q [m.getD t []] hq (by simp) hr1, h2⟩
    rw [cut_one m t ht]
    exact spec_pairs_tells q [m.getD t []] hq (by simp) hr1
  have stepS : ∀ (t : Nat) (best least : Int) (x : Int) (r : Int × Int × Int), t < m.length → (Ev (fun k => spec_l07Pairs.f k q ((m.take (t + 1)).drop t)) (pairsL q [m.getD t []]) ∧ Ev (fun k => spec_l07Agreement.f k (pairsL q [m.getD t []]) o) x) →
      Ev (fun k => if least < 0 then spec_StrangeTaster.l0 k q m o t x ((t + 1 : Nat) : Int) else if x < least then spec_StrangeTaster.l0 k q m o t x ((t + 1 : Nat) : Int) else spec_StrangeTaster.l0 k q m o best least ((t + 1 : Nat) : Int)) r → Ev (fun k => spec_StrangeTaster.l0 k q m o best least t) r := by
    intro t best least x r ht hx h
    refine Ev.step (fun k => spec_StrangeTaster.l0.eq_2 _ _ _ _ _ _ k) ?_
    have hw : wrap64 ((t : Int) + 1) = ((t + 1 : Nat) : Int) := w_i ht (show m.length ≤ 4611686018427387904 by omega)
    simp only [hw, if_pos (show (t : Int) < (m.length : Int) by omega), if_pos (show (0 : Int) ≤ (t : Int) by omega), if_pos (show (t : Int) ≤ ((t + 1 : Nat) : Int) by omega), if_pos (show ((t + 1 : Nat) : Int) ≤ (m.length : Int) by omega), Int.toNat_natCast]
    refine Ev.bind hx.1 ?_
    refine Ev.bind hx.2 ?_
    exact h
  have stepI : ∀ (t : Nat) (best least : Int) (x : Int) (r : Int × Int × Int), t < m.length → (Ev (fun k => impl_pairs.f k q [m.getD t []]) (pairsL q [m.getD t []]) ∧ Ev (fun k => impl_agreement.f k (pairsL q [m.getD t []]) o) x) →
      Ev (fun k => if best < 0 then impl_StrangeTaster.l0 k q o t x m m.length ((t + 1 : Nat) : Int) else if x < least then impl_StrangeTaster.l0 k q o t x m m.length ((t + 1 : Nat) : Int) else impl_StrangeTaster.l0 k q o best least m m.length ((t + 1 : Nat) : Int)) r → Ev (fun k => impl_StrangeTaster.l0 k q o best least m m.length t) r := by
    intro t best least x r ht hx h
    refine Ev.step (fun k => impl_StrangeTaster.l0.eq_2 _ _ _ _ _ _ _ k) ?_
    have hw : wrap64 ((t : Int) + 1) = ((t + 1 : Nat) : Int) := w_i ht (show m.length ≤ 4611686018427387904 by omega)
    have hrd : rd_L1 m (t : Int) = m.getD t [] := rfl
    simp only [hw, hrd, if_pos (show (t : Int) < (m.length : Int) by omega), if_pos (show (0 : Int) ≤ (t : Int) by omega)]
    refine Ev.bind hx.1 ?_
    refine Ev.bind hx.2 ?_
    exact h
  have key : ∀ d (t : Nat) (best least : Int), t + d = m.length → 0 ≤ best → 0 ≤ least → ∃ r, Ev (fun k => spec_StrangeTaster.l0 k q m o best least t) r ∧ Ev (fun k => impl_StrangeTaster.l0 k q o best least m m.length t) r := by
    intro d
    induction d with
    | zero =>
      intro t best least ht hb hl
      obtain rfl : t = m.length := by omega
      refine ⟨(best, least, 0), Ev.step (fun k => spec_StrangeTaster.l0.eq_2 _ _ _ _ _ _ k) ?_, Ev.step (fun k => impl_StrangeTaster.l0.eq_2 _ _ _ _ _ _ _ k) ?_⟩
      · simp only [if_neg (show ¬ ((m.length : Int) < (m.length : Int)) by omega)]
        exact Ev.now _
      · simp only [if_neg (show ¬ ((m.length : Int) < (m.length : Int)) by omega)]
        exact Ev.now _
    | succ d ih =>
      intro t best least ht hb hl
      obtain ⟨x, hx0, hx1, hx2⟩ := own t (by omega)
      by_cases c : x < least
      · obtain ⟨r, h1, h2⟩ := ih (t + 1) t x (by omega) (by omega) hx0
        refine ⟨r, stepS t best least x r (by omega) hx1 ?_, stepI t best least x r (by omega) hx2 ?_⟩
        · simp only [if_neg (show ¬ (least < 0) by omega), if_pos c]; exact h1
        · simp only [if_neg (show ¬ (best < 0) by omega), if_pos c]; exact h2
      · obtain ⟨r, h1, h2⟩ := ih (t + 1) best least (by omega) hb hl
        refine ⟨r, stepS t best least x r (by omega) hx1 ?_, stepI t best least x r (by omega) hx2 ?_⟩
        · simp only [if_neg (show ¬ (least < 0) by omega), if_neg c]; exact h1
        · simp only [if_neg (show ¬ (best < 0) by omega), if_neg c]; exact h2
  obtain ⟨x, hx0, hx1, hx2⟩ := own 0 (by omega)
  obtain ⟨r, h1, h2⟩ := key (m.length - 1) 1 0 x (by omega) (Int.le_refl _) hx0
  refine ⟨r, stepS 0 0 (-1) x r (by omega) hx1 ?_, stepI 0 (-1) 0 x r (by omega) hx2 ?_⟩
  · simp only [if_pos (show (-1 : Int) < 0 by omega)]; exact h1
  · simp only [if_pos (show (-1 : Int) < 0 by omega)]; exact h2
theorem same (s : Int) (m : List (List Int)) (hm : m.length ≤ 1048576) (hx : ∀ x ∈ m, (x.length : Int) ≤ 1048576) : ∃ r, Ev (fun k => spec_StrangeTaster.f k s m) r ∧ Ev (fun k => impl_StrangeTaster.f k s m) r := by
  unfold spec_StrangeTaster.f impl_StrangeTaster.f impl_ValidMarks.f spec_l07Best.f impl_bestOrder.f
  simp only [Option.bind_some]
  by_cases hb : marksB s m = true
  · obtain ⟨q, rfl, h1, h2, h3, h4⟩ := marksB_says hb
    by_cases h0 : (m.length : Int) = 0
    · refine ⟨(0, 0, 6), Ev.bind (l07Ok_tells _ m hm hx) ?_, ?_⟩
      · simp only [if_pos hb, if_pos h0]; exact Ev.now _
      · simp only [if_pos hb, if_pos h0]; exact Ev.now _
    · obtain ⟨⟨o, v⟩, hr8, hrS, hrI⟩ := Best.best_same (Best.pairs_bd q m h2 h3) h1 h2
      have hel : ∀ i, i < o.length → ∃ a : Nat, o.getD i 0 = a ∧ a < q := by
        have hh := hrI
        unfold Best.bestOI at hh
        obtain ⟨l, hl, e⟩ := Option.map_eq_some_iff.1 hh
        obtain ⟨rfl, -⟩ := Prod.mk.inj e
        exact ord_mem hl
      obtain ⟨r, r1, r2⟩ := loops q h2 m h3 h4 o hr8 hel (by omega)
      refine ⟨r, Ev.bind (l07Ok_tells _ m hm hx) ?_, ?_⟩
      · simp only [if_pos hb, if_neg h0, Int.toNat_natCast, hrS, Option.bind_some]
        exact r1
      · simp only [if_pos hb, if_neg h0, Int.toNat_natCast, hrI, Option.bind_some]
        exact r2
  · refine ⟨(0, 0, 1), Ev.bind (l07Ok_tells _ m hm hx) ?_, ?_⟩
    · simp only [if_neg hb]
      exact Ev.now _
    · simp only [if_neg hb]
      exact Ev.now _
theorem FnExactStrangeTaster : SayFnExactStrangeTaster.Pure := by
  intro s m _ hl hx
  refine Ev.rounds (?_ : Ev (fun k => laws_FnExactStrangeTaster.f k s m) true)
  unfold laws_FnExactStrangeTaster.f
  rcases szMarks_tells m hl (fun x h => (hx x h).1) 1048576 (by omega) (by omega) with h | ⟨⟨h1, h2⟩, n, hn, h⟩
  · refine Ev.bind h ?_
    simp only [if_pos (show (-1 : Int) < 0 by omega)]
    exact Ev.now _
  · obtain ⟨r, hr1, hr2⟩ := same s m (by omega) h2
    refine Ev.bind h ?_
    simp only [if_neg (show ¬ (n < 0) by omega)]
    repeat (first
      | exact Ev.now _
      | refine Ev.bind (by first | exact hr1 | exact hr2 | exact toMarks_tells m (by omega) h2 | exact eqMarks_tells m (by omega) h2) ?_
      | simp only [Option.bind_some, if_true, bne_self, if_neg Bool.false_ne_true]
      | refine Ev.step (fun k => laws_FnExactStrangeTaster.j0.eq_2 _ _ _ k) ?_)
end Go.Proofs.Ytngpjamojkneeaa.PureFnExactStrangeTaster
