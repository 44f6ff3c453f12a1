/- Plain laws on orders and what follows what: the reference's FollowsOf in a closed form. -/
import Derived.Test.YtmdcchekaijlbaaPl
import Derived.Test.YtmdcchekaijlbaaFLibPairs
import Derived.Test.YtmdcchekaijlbaaFLibPerm
import Derived.Test.YtmdcchekaijlbaaFLibI64
import Derived.Test.YtmdcchekaijlbaaFOrder
import Derived.Test.YtmdcchekaijlbaaG5
import Derived.Test.YtmdcchekaijlbaaG5
import Derived.Test.YtmdcchekaijlbaaFContOrd
import Derived.Test.YtmdcchekaijlbaaFVMarks
namespace Go.Proofs.Ytmdcchekaijlbaa.G
open Go.RowKit Go.Proofs.YtmdcchekaijlbaaW.PrintWords Go.Proofs.YtmdcchekaijlbaaW.PrintLast Go.Proofs.YtmdcchekaijlbaaW.PrintMore
attribute [local go_sem] max2_int min2_int max_two min_two max_three min_three max_four min_four   -- for this text's walks alone
set_option linter.unusedVariables false
set_option linter.unusedSimpArgs false

open Go.Proofs.Ytmdcchekaijlbaa.Wk Go.Proofs.Ytmdcchekaijlbaa.Pl

def fstep (ord : List Int) (t : List (List Int)) (i : Nat) : List (List Int) := upd t (ord.getD i 0).toNat (ord.getD (i + 1) 0).toNat
def frow (q : Nat) (ord : List Int) (t : List (List Int)) : List (List Int) := stF (fstep ord) t (q - 1)
def followStep (q : Nat) (m : List (List Int)) (t : List (List Int)) (i : Nat) : List (List Int) := frow q (m.getD i []) t
def followL (q : Nat) (m : List (List Int)) : List (List Int) := stF (followStep q m) (squareL q q) m.length
def okRow (s : Int) (l : List Int) : Bool := decide ((l.length : Int) = s) && orderB s l
def followR (s : Int) (m : List (List Int)) : List (List Int) × Int := if inB s 1 8 = true then (if m.all (okRow s) = true then (if (m.length : Int) > 100 then ([], 3) else (followL s.toNat m, 0)) else ([], 4)) else ([], 2)
theorem Sq.frow {s : Nat} {t : List (List Int)} (h : Sq s t) (ord : List Int) (n : Nat) : Sq s (stF (fstep ord) t n) := stF_inv (Sq s) h n (fun t i _ ht => ht.upd _ _) n (Nat.le_refl _)
theorem Sq.follow {s : Nat} {t : List (List Int)} (h : Sq s t) (m : List (List Int)) (n : Nat) : Sq s (stF (followStep s m) t n) := stF_inv (Sq s) h n (fun t i _ ht => ht.frow _ _) n (Nat.le_refl _)
theorem followL_sq (q : Nat) (m : List (List Int)) : Sq q (followL q m) := (squareL_sq q).follow m _
theorem spec_follow_row (q : Nat) (m : List (List Int)) (hq : 1 ≤ q) (hq2 : q ≤ 8) (hm : m.length ≤ 100) (i : Nat) (hi : i < m.length) (hl : (m.getD i []).length = q) (ho : orderB q (m.getD i []) = true) (t : List (List Int)) (ht : Sq q t) (r : List (List Int) × Int)
    (h : Ev (fun k => spec_FollowsOf.l1 k m (followStep q m t i) ((i + 1 : Nat) : Int)) r) : Ev (fun k => spec_FollowsOf.l2 k m t i 1) r :=
  ev_steps (F := fun k j (x : List (List Int)) => spec_FollowsOf.l2 k m x i j) 1 q hq (fun j => stF (fstep (m.getD i [])) t (j - 1)) r (fun j hj1 hj h => by
    have hsq := ht.frow (m.getD i []) (j - 1)
    have ha := order_in hq hq2 hl ho (j - 1) (by omega)
    have hb := order_in hq hq2 hl ho j hj
    obtain ⟨a, ha2⟩ : ∃ a : Nat, (m.getD i []).getD (j - 1) 0 = a := ⟨((m.getD i []).getD (j - 1) 0).toNat, by omega⟩
    obtain ⟨b, hb2⟩ : ∃ b : Nat, (m.getD i []).getD j 0 = b := ⟨((m.getD i []).getD j 0).toNat, by omega⟩
    have hw : wrap64 ((j : Int) - 1) = ((j - 1 : Nat) : Int) := by rw [w_id (by omega) (by omega)]; omega
    have hst : stF (fstep (m.getD i [])) t j = upd (stF (fstep (m.getD i [])) t (j - 1)) a b := by
      conv => lhs; rw [show j = (j - 1) + 1 by omega]
      rw [stF_succ, fstep, show j - 1 + 1 = j by omega, ha2, hb2, Int.toNat_natCast, Int.toNat_natCast]
    rw [ha2] at ha
    rw [hb2] at hb
    simp only [Nat.add_sub_cancel, hst] at h
    refine Ev.step (fun k => spec_FollowsOf.l2.eq_2 _ _ _ _ k) ?_
    simp only [rdL_nat, rd_nat, hl, hw, ha2, hb2, if_pos (show (0 : Int) ≤ (i : Int) by omega), if_pos (show (i : Int) < (m.length : Int) by omega), if_pos (show (j : Int) < (q : Int) by omega), if_pos (show (0 : Int) ≤ ((j - 1 : Nat) : Int) by omega), if_pos (show ((j - 1 : Nat) : Int) < (q : Int) by omega), if_pos (show (0 : Int) ≤ (a : Int) by omega), if_pos (show (0 : Int) ≤ (b : Int) by omega), if_pos (show (0 : Int) ≤ (j : Int) by omega), if_pos (show (a : Int) < ((stF (fstep (m.getD i [])) t (j - 1)).length : Int) by rw [hsq.1]; omega), if_pos (show (b : Int) < (((stF (fstep (m.getD i [])) t (j - 1)).getD a []).length : Int) by rw [hsq.2 a (by omega)]; omega), Int.toNat_natCast, w_i hj (show q ≤ 4611686018427387904 by omega)]
    exact h) (by
    refine Ev.step (fun k => spec_FollowsOf.l2.eq_2 _ _ _ _ k) ?_
    simp only [rdL_nat, hl, if_pos (show (0 : Int) ≤ (i : Int) by omega), if_pos (show (i : Int) < (m.length : Int) by omega), if_neg (show ¬ ((q : Int) < (q : Int)) by omega), w_i hi (show m.length ≤ 4611686018427387904 by omega)]
    exact h)
theorem spec_follows_tells (s : Int) (m : List (List Int)) (hm : m.length ≤ 1048576) (hx : ∀ x ∈ m, (x.length : Int) ≤ 1048576) : Ev (fun k => spec_FollowsOf.f k s m) (followR s m) := by
  unfold spec_FollowsOf.f followR spec_l07Samples.f
  simp only [l00In_tells2, Option.bind_some]
  by_cases hin : inB s 1 8 = true
  · simp only [if_pos hin]
    have hin2 := hin
    unfold inB at hin2
    simp only [Bool.and_eq_true, decide_eq_true_eq] at hin2
    obtain ⟨q, rfl⟩ : ∃ q : Nat, s = q := ⟨s.toNat, by omega⟩
    rw [all_range m [] (okRow q)]
    have hord : ∀ i : Nat, i < m.length → spec_l07Order.f q (m.getD i []) = some (okRow q (m.getD i [])) := fun i hi => by
      have : ((m.getD i []).length : Int) ≤ 1048576 := by rw [getD_lt hi]; exact hx _ (List.getElem_mem hi)
      unfold spec_l07Order.f
      rw [if_pos (by omega)]
      rfl
    have hloop := ev_all (F := fun k i => spec_FollowsOf.l0 k q m i) m.length (fun i => okRow q (m.getD i [])) (if (m.length : Int) > 100 then ([], 3) else (followL (q : Int).toNat m, 0)) ([], 4) (fun i hi hp r h2 => by
      refine Ev.step (fun k => spec_FollowsOf.l0.eq_2 _ _ _ k) ?_
      simp only [rdL_nat, hord i hi, hp, Option.bind_some, if_true, if_pos (show (i : Int) < (m.length : Int) by omega), if_pos (show (0 : Int) ≤ (i : Int) by omega), w_i hi (show m.length ≤ 4611686018427387904 by omega)]
      exact h2) (fun i hi hp => by
      refine Ev.step (fun k => spec_FollowsOf.l0.eq_2 _ _ _ k) ?_
      simp only [rdL_nat, hord i hi, hp, Option.bind_some, if_neg Bool.false_ne_true, if_pos (show (i : Int) < (m.length : Int) by omega), if_pos (show (0 : Int) ≤ (i : Int) by omega)]
      exact Ev.now _)
    by_cases hall : (List.range m.length).all (fun i => okRow q (m.getD i [])) = true
    · rw [if_pos hall] at hloop ⊢
      refine hloop ?_
      refine Ev.step (fun k => spec_FollowsOf.l0.eq_2 _ _ _ k) ?_
      simp only [if_neg (show ¬ ((m.length : Int) < (m.length : Int)) by omega)]
      by_cases h100 : (m.length : Int) > 100
      · simp only [if_pos h100]
        exact Ev.now _
      · simp only [if_neg h100]
        refine Ev.bind (spec_square q (by omega)) ?_
        rw [Int.toNat_natCast]
        have hrow : ∀ i : Nat, i < m.length → (m.getD i []).length = q ∧ orderB q (m.getD i []) = true := fun i hi => by
          have := List.all_eq_true.1 hall i (List.mem_range.2 hi)
          unfold okRow at this
          rw [Bool.and_eq_true, decide_eq_true_eq] at this
          exact ⟨by omega, this.2⟩
        exact ev_steps (F := fun k i (x : List (List Int)) => spec_FollowsOf.l1 k m x i) 0 m.length (Nat.zero_le _) (fun i => stF (followStep q m) (squareL q q) i) (followL q m, 0) (fun i _ hi h => by
          refine Ev.step (fun k => spec_FollowsOf.l1.eq_2 _ _ _ k) ?_
          simp only [if_pos (show (i : Int) < (m.length : Int) by omega)]
          simp only [stF_succ] at h
          exact spec_follow_row q m (by omega) (by omega) (by omega) i hi (hrow i hi).1 (hrow i hi).2 _ ((squareL_sq q).follow m i) _ h) (by
          refine Ev.step (fun k => spec_FollowsOf.l1.eq_2 _ _ _ k) ?_
          simp only [if_neg (show ¬ ((m.length : Int) < (m.length : Int)) by omega)]
          exact Ev.now _)
    · rw [if_neg hall]
      rcases first_bad (fun i => okRow q (m.getD i [])) m.length with hb | ⟨j, hj, hb1, hb2⟩
      · exact absurd (List.all_eq_true.2 fun j hj => hb j (List.mem_range.1 hj)) hall
      · exact ev_steps (F := fun k i (_ : Unit) => spec_FollowsOf.l0 k q m i) 0 j (Nat.zero_le _) (fun _ => ()) _ (fun i _ hi h => by
          refine Ev.step (fun k => spec_FollowsOf.l0.eq_2 _ _ _ k) ?_
          simp only [rdL_nat, hord i (by omega), hb2 i hi, Option.bind_some, if_true, if_pos (show (i : Int) < (m.length : Int) by omega), if_pos (show (0 : Int) ≤ (i : Int) by omega), w_i (show i < m.length by omega) (show m.length ≤ 4611686018427387904 by omega)]
          exact h) (by
          refine Ev.step (fun k => spec_FollowsOf.l0.eq_2 _ _ _ k) ?_
          simp only [rdL_nat, hord j hj, hb1, Option.bind_some, if_neg Bool.false_ne_true, if_pos (show (j : Int) < (m.length : Int) by omega), if_pos (show (0 : Int) ≤ (j : Int) by omega)]
          exact Ev.now _)
  · simp only [if_neg hin]
    exact Ev.now _
theorem impl_follow_row (q : Nat) (m : List (List Int)) (hq : 1 ≤ q) (hq2 : q ≤ 8) (hm : m.length ≤ 100) (i : Nat) (hi : i < m.length) (hl : (m.getD i []).length = q) (ho : orderB q (m.getD i []) = true) (t : List (List Int)) (ht : Sq q t) (r : List (List Int) × Int)
    (h : Ev (fun k => impl_FollowsOf.l0 k (followStep q m t i) m m.length ((i + 1 : Nat) : Int)) r) : Ev (fun k => impl_FollowsOf.l1 k t (m.getD i []) 1 m m.length i) r :=
  ev_steps (F := fun k j (x : List (List Int)) => impl_FollowsOf.l1 k x (m.getD i []) j m m.length i) 1 q hq (fun j => stF (fstep (m.getD i [])) t (j - 1)) r (fun j hj1 hj h => by
    have hsq := ht.frow (m.getD i []) (j - 1)
    have ha := order_in hq hq2 hl ho (j - 1) (by omega)
    have hb := order_in hq hq2 hl ho j hj
    obtain ⟨a, ha2⟩ : ∃ a : Nat, (m.getD i []).getD (j - 1) 0 = a := ⟨((m.getD i []).getD (j - 1) 0).toNat, by omega⟩
    obtain ⟨b, hb2⟩ : ∃ b : Nat, (m.getD i []).getD j 0 = b := ⟨((m.getD i []).getD j 0).toNat, by omega⟩
    have hw : wrap64 ((j : Int) - 1) = ((j - 1 : Nat) : Int) := by rw [w_id (by omega) (by omega)]; omega
    have hst : stF (fstep (m.getD i [])) t j = upd (stF (fstep (m.getD i [])) t (j - 1)) a b := by
      conv => lhs; rw [show j = (j - 1) + 1 by omega]
      rw [stF_succ, fstep, show j - 1 + 1 = j by omega, ha2, hb2, Int.toNat_natCast, Int.toNat_natCast]
    rw [ha2] at ha
    rw [hb2] at hb
    simp only [Nat.add_sub_cancel, hst] at h
    refine Ev.step (fun k => impl_FollowsOf.l1.eq_2 _ _ _ _ _ _ k) ?_
    simp only [rdL_nat, rd_nat, hl, hw, ha2, hb2, if_pos (show (j : Int) < (q : Int) by omega), if_pos (show (0 : Int) ≤ ((j - 1 : Nat) : Int) by omega), if_pos (show ((j - 1 : Nat) : Int) < (q : Int) by omega), if_pos (show (0 : Int) ≤ (a : Int) by omega), if_pos (show (0 : Int) ≤ (b : Int) by omega), if_pos (show (0 : Int) ≤ (j : Int) by omega), if_pos (show (a : Int) < ((stF (fstep (m.getD i [])) t (j - 1)).length : Int) by rw [hsq.1]; omega), if_pos (show (b : Int) < (((stF (fstep (m.getD i [])) t (j - 1)).getD a []).length : Int) by rw [hsq.2 a (by omega)]; omega), Int.toNat_natCast, w_i hj (show q ≤ 4611686018427387904 by omega)]
    exact h) (by
    refine Ev.step (fun k => impl_FollowsOf.l1.eq_2 _ _ _ _ _ _ k) ?_
    simp only [hl, if_neg (show ¬ ((q : Int) < (q : Int)) by omega), w_i hi (show m.length ≤ 4611686018427387904 by omega)]
    exact h)
theorem impl_follows_tells (s : Int) (m : List (List Int)) (hm : m.length ≤ 1048576) (hx : ∀ x ∈ m, (x.length : Int) ≤ 1048576) : Ev (fun k => impl_FollowsOf.f k s m) (followR s m) := by
  have hbo : badOrders.f m s = some (!(m.all (ordB s))) := by
    unfold badOrders.f
    rw [if_pos (List.all_eq_true.2 fun x h => decide_eq_true (by have := hx x h; omega))]
  unfold impl_FollowsOf.f followR
  simp only [areSamples_tells, hbo, Option.bind_some]
  by_cases hin : inB s 1 8 = true
  · simp only [if_pos hin]
    have hin2 := hin
    unfold inB at hin2
    simp only [Bool.and_eq_true, decide_eq_true_eq] at hin2
    obtain ⟨q, rfl⟩ : ∃ q : Nat, s = q := ⟨s.toNat, by omega⟩
    have e : ordB (q : Int) = okRow q := by funext l; unfold ordB okRow; rw [hin, Bool.true_and]
    rw [e]
    by_cases hall : m.all (okRow q) = true
    · simp only [hall, Bool.not_true, if_neg Bool.false_ne_true, if_true]
      by_cases h100 : (m.length : Int) > 100
      · simp only [if_pos h100]
        exact Ev.now _
      · simp only [if_neg h100]
        refine Ev.bind (impl_square q (by omega)) ?_
        rw [Int.toNat_natCast]
        have hrow : ∀ i : Nat, i < m.length → (m.getD i []).length = q ∧ orderB q (m.getD i []) = true := fun i hi => by
          have := List.all_eq_true.1 hall _ (List.getElem_mem hi)
          unfold okRow at this
          rw [Bool.and_eq_true, decide_eq_true_eq] at this
          rw [getD_lt hi]
          exact ⟨by omega, this.2⟩
        exact ev_steps (F := fun k i (x : List (List Int)) => impl_FollowsOf.l0 k x m m.length i) 0 m.length (Nat.zero_le _) (fun i => stF (followStep q m) (squareL q q) i) (followL q m, 0) (fun i _ hi h => by
          refine Ev.step (fun k => impl_FollowsOf.l0.eq_2 _ _ _ _ k) ?_
          simp only [rdL_nat, if_pos (show (i : Int) < (m.length : Int) by omega), if_pos (show (0 : Int) ≤ (i : Int) by omega)]
          simp only [stF_succ] at h
          exact impl_follow_row q m (by omega) (by omega) (by omega) i hi (hrow i hi).1 (hrow i hi).2 _ ((squareL_sq q).follow m i) _ h) (by
          refine Ev.step (fun k => impl_FollowsOf.l0.eq_2 _ _ _ _ k) ?_
          simp only [if_neg (show ¬ ((m.length : Int) < (m.length : Int)) by omega)]
          exact Ev.now _)
    · simp only [Bool.eq_false_iff.2 hall, Bool.not_false, if_true, if_neg Bool.false_ne_true]
      exact Ev.now _
  · simp only [if_neg hin]
    exact Ev.now _
end Go.Proofs.Ytmdcchekaijlbaa.G
