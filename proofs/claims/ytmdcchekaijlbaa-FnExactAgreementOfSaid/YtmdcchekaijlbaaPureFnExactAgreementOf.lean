/- FnExactAgreementOf: the program's agreement is the reference's, for all samples, marks and orders. No condition. -/
import Derived.Test.YtmdcchekaijlbaaSayFnExactAgreementOf
import Derived.Test.YtmdcchekaijlbaaFHpMarks
import Derived.Test.YtmdcchekaijlbaaFLibPairs
import Derived.Test.YtmdcchekaijlbaaFOrder
namespace Go.Proofs.Ytmdcchekaijlbaa.PureFnExactAgreementOf
open Go.RowKit Go.Proofs.YtmdcchekaijlbaaW.PrintWords Go.Proofs.Ytmdcchekaijlbaa.G Go.Proofs.Ytmdcchekaijlbaa.SayFnExactAgreementOf Go.Proofs.Ytmdcchekaijlbaa.Wk Go.Proofs.Ytmdcchekaijlbaa.Pl
set_option linter.unusedSimpArgs false
set_option linter.unusedVariables false

theorem order_at {q : Nat} {l : List Int} (hq : 1 ≤ q) (hq2 : q ≤ 8) (hl : l.length = q) (h : orderB q l = true) (i : Nat) (hi : i < q) : ∃ a : Nat, l.getD i 0 = a ∧ a < q := by
  unfold orderB at h
  have := List.all_eq_true.1 h i (List.mem_range.2 (by omega))
  rw [w_id (by omega) (by omega)] at this
  unfold inB at this
  simp only [Bool.and_eq_true, decide_eq_true_eq] at this
  exact ⟨(l.getD i 0).toNat, by omega, by omega⟩
theorem sums (q : Nat) (hq : 1 ≤ q) (hq2 : q ≤ 8) (t : List (List Int)) (ht : Sq q t) (l : List Int) (hl : l.length = q) (h : orderB q l = true) : ∃ r, Ev (fun k => spec_l07Agreement.f k t l) r ∧ Ev (fun k => impl_agreement.f k t l) r := by
  have key : ∀ d (i : Nat) (acc : Int), i + d = q → ∃ r, Ev (fun k => spec_l07Agreement.l0 k t l acc i) r ∧ Ev (fun k => impl_agreement.l0 k t l acc l q i) r := by
    intro d
    induction d with
    | zero =>
      intro i acc hi
      obtain rfl : i = q := by omega
      refine ⟨acc, Ev.step (fun k => spec_l07Agreement.l0.eq_2 _ _ _ _ k) ?_, Ev.step (fun k => impl_agreement.l0.eq_2 _ _ _ _ _ _ k) ?_⟩
      · simp only [hl, if_neg (show ¬ ((i : Int) < (i : Int)) by omega)]
        exact Ev.now _
      · simp only [if_neg (show ¬ ((i : Int) < (i : Int)) by omega)]
        exact Ev.now _
    | succ d ih =>
      intro i acc hi
      have hi1 : i < q := by omega
      obtain ⟨a, ha, haq⟩ := order_at hq hq2 hl h i hi1
      have hdl : (l.drop (i + 1)).length = q - (i + 1) := by rw [List.length_drop, hl]
      have key1 : ∀ e (p : Nat) (acc : Int), i + 1 + p + e = q → ∃ r, Ev (fun k => spec_l07Agreement.l1 k t l acc i ((i + 1 + p : Nat) : Int)) r ∧ Ev (fun k => impl_agreement.l1 k t l acc a l q i (l.drop (i + 1)) ((q - (i + 1) : Nat) : Int) p) r := by
        intro e
        induction e with
        | zero =>
          intro p acc hp
          obtain ⟨r, h1, h2⟩ := ih (i + 1) acc (by omega)
          refine ⟨r, Ev.step (fun k => spec_l07Agreement.l1.eq_2 _ _ _ _ _ k) ?_, Ev.step (fun k => impl_agreement.l1.eq_2 _ _ _ _ _ _ _ _ _ _ k) ?_⟩
          · simp only [hl, if_neg (show ¬ (((i + 1 + p : Nat) : Int) < (q : Int)) by omega), w_i hi1 (show q ≤ 4611686018427387904 by omega)]
            exact h1
          · simp only [if_neg (show ¬ ((p : Int) < ((q - (i + 1) : Nat) : Int)) by omega), w_i hi1 (show q ≤ 4611686018427387904 by omega)]
            exact h2
        | succ e ih2 =>
          intro p acc hp
          have hj1 : i + 1 + p < q := by omega
          obtain ⟨b, hb, hbq⟩ := order_at hq hq2 hl h (i + 1 + p) hj1
          have hd : (l.drop (i + 1)).getD p 0 = b := by rw [← hb]; simp [List.getD, List.getElem?_drop]
          obtain ⟨r, h1, h2⟩ := ih2 (p + 1) (wrap64 (acc + (t.getD a []).getD b 0)) (by omega)
          refine ⟨r, Ev.step (fun k => spec_l07Agreement.l1.eq_2 _ _ _ _ _ k) ?_, Ev.step (fun k => impl_agreement.l1.eq_2 _ _ _ _ _ _ _ _ _ _ k) ?_⟩
          · simp only [hl, rd_nat, ha, hb, rdL_nat, if_pos (show (((i + 1 + p : Nat) : Int) < (q : Int)) by omega), if_pos (show (0 : Int) ≤ (i : Int) by omega), if_pos (show (i : Int) < (q : Int) by omega), if_pos (show (0 : Int) ≤ (a : Int) by omega), if_pos (show (a : Int) < (t.length : Int) by rw [ht.1]; omega), if_pos (show (0 : Int) ≤ ((i + 1 + p : Nat) : Int) by omega), if_pos (show (0 : Int) ≤ (b : Int) by omega), if_pos (show (b : Int) < ((t.getD a []).length : Int) by rw [ht.2 a haq]; omega), w_i hj1 (show q ≤ 4611686018427387904 by omega)]
            exact h1
          · simp only [hdl, rd_nat, hd, rdL_nat, if_pos (show (p : Int) < ((q - (i + 1) : Nat) : Int) by omega), if_pos (show (0 : Int) ≤ (p : Int) by omega), if_pos (show (0 : Int) ≤ (a : Int) by omega), if_pos (show (a : Int) < (t.length : Int) by rw [ht.1]; omega), if_pos (show (0 : Int) ≤ (b : Int) by omega), if_pos (show (b : Int) < ((t.getD a []).length : Int) by rw [ht.2 a haq]; omega), w_i (show p < q by omega) (show q ≤ 4611686018427387904 by omega)]
            exact h2
      obtain ⟨r, h1, h2⟩ := key1 (q - (i + 1)) 0 acc (by omega)
      refine ⟨r, Ev.step (fun k => spec_l07Agreement.l0.eq_2 _ _ _ _ k) ?_, Ev.step (fun k => impl_agreement.l0.eq_2 _ _ _ _ _ _ k) ?_⟩
      · simp only [hl, if_pos (show (i : Int) < (q : Int) by omega), w_i hi1 (show q ≤ 4611686018427387904 by omega)]
        exact h1
      · simp only [hl, rd_nat, ha, if_pos (show (i : Int) < (q : Int) by omega), if_pos (show (0 : Int) ≤ (i : Int) by omega), w_i hi1 (show q ≤ 4611686018427387904 by omega), if_pos (show (0 : Int) ≤ ((i + 1 : Nat) : Int) by omega), if_pos (show ((i + 1 : Nat) : Int) ≤ (q : Int) by omega), Int.toNat_natCast, hdl]
        exact h2
  unfold spec_l07Agreement.f impl_agreement.f
  rw [hl]
  exact key q 0 0 (by omega)
theorem same (s : Int) (m : List (List Int)) (hm : m.length ≤ 1048576) (hx : ∀ x ∈ m, (x.length : Int) ≤ 1048576) (l : List Int) (hl : l.length ≤ 1048576) : ∃ r, Ev (fun k => spec_AgreementOf.f k s m l) r ∧ Ev (fun k => impl_AgreementOf.f k s m l) r := by
  unfold spec_AgreementOf.f impl_AgreementOf.f impl_ValidMarks.f spec_l07Order.f impl_IsOrder.f
  simp only [Option.bind_some, if_pos (show l.length ≤ 1099511627776 by omega)]
  by_cases hb : marksB s m = true
  · obtain ⟨q, rfl, h1, h2, h3, h4⟩ := marksB_says hb
    have hin : inB (q : Int) 1 8 = true := by unfold inB; simp only [Bool.and_eq_true, decide_eq_true_eq]; omega
    by_cases ho : (decide ((l.length : Int) = q) && orderB q l) = true
    · have ho2 := ho
      rw [Bool.and_eq_true, decide_eq_true_eq] at ho2
      obtain ⟨r, hr1, hr2⟩ := sums q h1 h2 (pairsL q m) (pairsL_sq q m) l (by omega) ho2.2
      refine ⟨(r, 0), Ev.bind (l07Ok_tells _ m hm hx) ?_, ?_⟩
      · simp only [if_pos hb, if_pos ho]
        exact Ev.bind (spec_pairs_tells q m h2 h3 h4) (Ev.bind hr1 (Ev.now _))
      · simp only [if_pos hb, hin, Bool.true_and, if_pos ho]
        exact Ev.bind (impl_pairs_tells q m h2 h3 h4) (Ev.bind hr2 (Ev.now _))
    · refine ⟨(0, 4), Ev.bind (l07Ok_tells _ m hm hx) ?_, ?_⟩
      · simp only [if_pos hb, if_neg ho]
        exact Ev.now _
      · simp only [if_pos hb, hin, Bool.true_and, if_neg ho]
        exact Ev.now _
  · refine ⟨(0, 1), Ev.bind (l07Ok_tells _ m hm hx) ?_, ?_⟩
    · simp only [if_neg hb]
      exact Ev.now _
    · simp only [if_neg hb]
      exact Ev.now _
theorem FnExactAgreementOf : SayFnExactAgreementOf.Pure := by
  intro s m l _ hl hx hl2 _
  refine Ev.rounds (?_ : Ev (fun k => laws_FnExactAgreementOf.f k s m l) true)
  unfold laws_FnExactAgreementOf.f
  by_cases hbig : (l.length : Int) > 1048576
  · simp only [if_pos hbig]
    exact Ev.now _
  simp only [if_neg hbig]
  rcases szMarks_tells m hl (fun x h => (hx x h).1) 1048576 (by omega) (by omega) with h | ⟨⟨h1, h2⟩, n, hn, h⟩
  · refine Ev.bind h ?_
    simp only [if_pos (show (-1 : Int) < 0 by omega)]
    exact Ev.now _
  · obtain ⟨r, hr1, hr2⟩ := same s m (by omega) h2 l (by omega)
    refine Ev.bind h ?_
    simp only [if_neg (show ¬ (n < 0) by omega)]
    repeat (first
      | exact Ev.now _
      | refine Ev.bind (by first | exact hr1 | exact hr2 | exact toMarks_tells m (by omega) h2 | exact eqMarks_tells m (by omega) h2 | exact ev_of (toInt64S_tells l hl2) | exact ev_of (eqInt64S_tells l (by omega))) ?_
      | simp only [Option.bind_some, if_true, bne_self, if_neg Bool.false_ne_true]
      | refine Ev.step (fun k => laws_FnExactAgreementOf.j0.eq_2 _ _ _ _ _ k) ?_)
end Go.Proofs.Ytmdcchekaijlbaa.PureFnExactAgreementOf
