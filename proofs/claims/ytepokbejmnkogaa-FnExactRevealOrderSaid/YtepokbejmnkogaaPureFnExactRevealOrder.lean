/- FnExactRevealOrder: the program's RevealOrder answers as the reference's does, for all numbers, orders and bottles that the law lets in; its result shares no memory. No condition. -/
import Derived.Test.YtepokbejmnkogaaSayFnExactRevealOrder
import Derived.Test.YtepokbejmnkogaaFHpI64
import Derived.Test.YtepokbejmnkogaaFHpBottle
import Derived.Test.YtepokbejmnkogaaFLibI64
import Derived.Test.YtepokbejmnkogaaFRevealO
import Derived.Test.YtepokbejmnkogaaFRevPlain
namespace Go.Proofs.Ytepokbejmnkogaa.PureFnExactRevealOrder
open Go.RowKit Go.Proofs.YtepokbejmnkogaaW.PrintWords Go.Proofs.Ytepokbejmnkogaa.G Go.Proofs.Ytepokbejmnkogaa.SayFnExactRevealOrder Go.Proofs.Ytepokbejmnkogaa.Wk Go.Proofs.Ytepokbejmnkogaa.Pl Rev
set_option linter.unusedSimpArgs false
set_option linter.unusedVariables false
theorem bottle_t (a b : Int) : spec_l01Bottle.f a b = some (bottleB a b) := by
  unfold spec_l01Bottle.f bottleB
  simp only [l00In_tells2, Option.bind_some]
  cases inB (wrap64 a) 1 20 <;> simp
theorem samples2_t (x : Int) : spec_l07Samples.f x = some (inB x 1 8) := by
  unfold spec_l07Samples.f
  rw [l00In_tells2]
  rfl
theorem where_tells (l : List Int) (x : Int) (hl : l.length ≤ 1099511627776) (i : Nat) (hi : idxI l x = i) (hlt : i < l.length) : Ev (fun k => spec_l07Where.f k l x) (i : Int) := by
  have hp : l.getD i 0 = x ∧ ∀ j, j < i → ¬ l.getD j 0 = x := by
    unfold idxI at hi
    cases hf : (List.range l.length).find? (fun j => l.getD j 0 == x) with
    | none => rw [hf] at hi; simp only at hi; omega
    | some j =>
      rw [hf] at hi
      simp only at hi
      obtain rfl : j = i := by omega
      rw [List.find?_range_eq_some] at hf
      exact ⟨by simpa using hf.1, fun q hq => by simpa using hf.2.2 q hq⟩
  unfold spec_l07Where.f
  refine ev_steps (F := fun k i (_ : Unit) => spec_l07Where.l0 k l x i) 0 i (Nat.zero_le _) (fun _ => ()) (i : Int) (fun j _ hj h => ?_) ?_
  · refine Ev.step (fun k => ?_) h
    simp only [spec_l07Where.l0]
    rw [if_pos (by omega), if_pos (by omega), if_neg (by have := hp.2 j hj; simpa [rd] using this), w_i (by omega : j < l.length) (by omega)]
  · refine Ev.step (fun k => ?_) (Ev.now _)
    simp only [spec_l07Where.l0]
    rw [if_pos (by omega), if_pos (by omega), if_pos (by simpa [rd] using hp.1)]
theorem loop2 (l0 l1 : List Int) (l2 : List B) (h0 : l0.length ≤ 1048576) (h1 : l1.length ≤ 1048576) (he : l2.length = l0.length) :
    ∀ d (i : Nat) (o : List B), i + d = l1.length → o.length ≤ i → Ev (fun k => spec_RevealOrder.l2 k l0 l1 l2 o i) (rev l0 l2 (l1.drop i) o) := by
  intro d
  induction d with
  | zero =>
    intro i o hi ho
    obtain rfl : i = l1.length := by omega
    rw [List.drop_length]
    refine Ev.step (fun k => ?_) (Ev.now _)
    simp only [spec_RevealOrder.l2]
    rw [if_neg (by omega)]
    rfl
  | succ d ih =>
    intro i o hi ho
    have hlt : i < l1.length := by omega
    have hr : rd l1 (i : Int) = l1.getD i 0 := rfl
    have hH := has_tells l0 (l1.getD i 0) (by omega)
    have hc := idxI_contains l0 (l1.getD i 0)
    rw [List.drop_eq_getElem_cons hlt, ← getD_lt hlt 0]
    generalize l1.getD i 0 = x at hr hH hc
    refine Ev.step (fun k => spec_RevealOrder.l2.eq_2 l0 l1 l2 o i k) ?_
    simp only [if_pos (show (i : Int) < (l1.length : Int) by omega), if_pos (show (0 : Int) ≤ (i : Int) by omega), hr]
    refine Ev.bind hH ?_
    rw [← hc, rev]
    rcases idx_lt l0 x with hx | ⟨q, hq, hql⟩
    · rw [if_pos hx]
      have e : decide (0 ≤ idxI l0 x) = false := decide_eq_false (by omega)
      simp only [e, Bool.false_eq_true, if_false]
      exact Ev.now _
    · have e : decide (0 ≤ idxI l0 x) = true := decide_eq_true (by omega)
      rw [if_neg (by omega)]
      simp only [e, if_true]
      refine Ev.bind (where_tells l0 x (by omega) q hq hql) ?_
      simp only [if_pos (show (0 : Int) ≤ (q : Int) by omega), if_pos (show (q : Int) < (l2.length : Int) by omega), if_pos (show o.length < 35184372088832 by omega), w_i hlt (show l1.length ≤ 4611686018427387904 by omega)]
      have e2 : (idxI l0 x).toNat = q := by omega
      rw [e2]
      exact ih (i + 1) _ (by omega) (by simp; omega)
theorem loop1 (l0 l1 : List Int) (l2 : List B) (h0 : l0.length ≤ 1048576) (h1 : l1.length ≤ 1048576) :
    ∀ d (i : Nat) (b : Bool) (r : List B × Int), i + d = l0.length → Ev (fun k => spec_RevealOrder.l1 k l0 l1 l2 [] (b && (List.range d).all fun j => !((l0.take (i + j)).contains (l0.getD (i + j) 0))) (l0.length : Int)) r → Ev (fun k => spec_RevealOrder.l1 k l0 l1 l2 [] b i) r := by
  intro d
  induction d with
  | zero =>
    intro i b r hi h
    obtain rfl : i = l0.length := by omega
    simpa using h
  | succ d ih =>
    intro i b r hi h
    have hlt : i < l0.length := by omega
    refine Ev.step (fun k => spec_RevealOrder.l1.eq_2 l0 l1 l2 _ b i k) ?_
    rw [List.range_succ_eq_map, List.all_cons, List.all_map] at h
    simp only [Nat.add_zero, Function.comp_def, Nat.succ_eq_add_one] at h
    have e : (fun j => !((l0.take (i + (j + 1))).contains (l0.getD (i + (j + 1)) 0))) = fun j => !((l0.take (i + 1 + j)).contains (l0.getD (i + 1 + j) 0)) := funext fun j => by rw [show i + (j + 1) = i + 1 + j by omega]
    rw [e] at h
    simp only [if_pos (show (i : Int) < (l0.length : Int) by omega)]
    cases b
    · simp only [Bool.false_eq_true, if_false, w_i hlt (show l0.length ≤ 4611686018427387904 by omega)]
      exact ih (i + 1) false r (by omega) (by simpa using h)
    · simp only [if_true, if_pos (show (0 : Int) ≤ (i : Int) by omega), if_pos (show (i : Int) ≤ (l0.length : Int) by omega)]
      have hr : rd l0 (i : Int) = l0.getD i 0 := rfl
      rw [Int.toNat_natCast, hr]
      refine Ev.bind (has_tells (l0.take i) (l0.getD i 0) (by rw [List.length_take]; omega)) ?_
      simp only [w_i hlt (show l0.length ≤ 4611686018427387904 by omega)]
      exact ih (i + 1) _ r (by omega) (by simpa [Bool.and_assoc] using h)
theorem spec_tells (l0 l1 : List Int) (l2 : List B) (h0 : l0.length ≤ 1048576) (h1 : l1.length ≤ 1048576) (h2 : l2.length ≤ 1048576) : Ev (fun k => spec_RevealOrder.f k l0 l1 l2) (out l0 l1 l2) := by
  unfold spec_RevealOrder.f
  have key := ev_all (F := fun k i => spec_RevealOrder.l0 k l0 l1 l2 [] i) l2.length (fun j => bB (l2.getD j z71)) (if inB (l0.length : Int) 1 8 = true then (if dup l0 = true then ([], 2) else if l2.length = l0.length then (if l1.length > 100 then ([], 3) else rev l0 l2 l1 []) else ([], 2)) else ([], 2)) ([], 1) (fun i hi hb r h => by
    refine Ev.step (fun k => spec_RevealOrder.l0.eq_2 l0 l1 l2 _ i k) ?_
    have hr : rd_T71 l2 (i : Int) = l2.getD i z71 := rfl
    simp only [if_pos (show (i : Int) < (l2.length : Int) by omega), if_pos (show (0 : Int) ≤ (i : Int) by omega), hr, bottle_t, Option.bind_some]
    unfold bB at hb
    rw [hb]
    simp only [if_true, w_i hi (show l2.length ≤ 4611686018427387904 by omega)]
    exact h) (fun i hi hb => by
    refine Ev.step (fun k => spec_RevealOrder.l0.eq_2 l0 l1 l2 _ i k) ?_
    have hr : rd_T71 l2 (i : Int) = l2.getD i z71 := rfl
    simp only [if_pos (show (i : Int) < (l2.length : Int) by omega), if_pos (show (0 : Int) ≤ (i : Int) by omega), hr, bottle_t, Option.bind_some]
    unfold bB at hb
    rw [hb]
    exact Ev.now _) (by
    refine Ev.step (fun k => spec_RevealOrder.l0.eq_2 l0 l1 l2 _ l2.length k) ?_
    simp only [if_neg (show ¬ ((l2.length : Int) < (l2.length : Int)) by omega), samples2_t, Option.bind_some]
    have fin : ∀ b : Bool, Ev (fun k => spec_RevealOrder.j1 k l0 l1 l2 [] b) (if b = true then (if dup l0 = true then ([], 2) else (if l1.length > 100 then ([], 3) else rev l0 l2 l1 [])) else ([], 2)) ∨ (b = true ∧ ¬ l2.length = l0.length) := by
      intro b
      by_cases hbe : b = true ∧ ¬ l2.length = l0.length
      · right; exact hbe
      left
      refine Ev.step (fun k => spec_RevealOrder.j1.eq_2 l0 l1 l2 _ b k) ?_
      refine loop1 l0 l1 l2 h0 h1 l0.length 0 b _ (by omega) ?_
      simp only [Nat.zero_add]
      refine Ev.step (fun k => spec_RevealOrder.l1.eq_2 l0 l1 l2 _ _ l0.length k) ?_
      simp only [if_neg (show ¬ ((l0.length : Int) < (l0.length : Int)) by omega)]
      have hd := RevPlain.dup_all l0
      have hd2 : dup l0 = !((List.range l0.length).all fun j => !((l0.take j).contains (l0.getD j 0))) := hd
      rw [hd2]
      cases b
      · simp only [Bool.false_and, Bool.false_eq_true, if_false]
        exact Ev.now _
      · cases (List.range l0.length).all fun j => !((l0.take j).contains (l0.getD j 0))
        · simp only [Bool.true_and, Bool.false_eq_true, if_false, Bool.not_false, if_true]
          exact Ev.now _
        · simp only [Bool.true_and, if_true, Bool.not_true, Bool.false_eq_true, if_false]
          by_cases hq : l1.length > 100
          · simp only [if_pos (show (l1.length : Int) > 100 by omega), if_pos hq]
            exact Ev.now _
          · simp only [if_neg (show ¬ (l1.length : Int) > 100 by omega), if_neg hq]
            have := loop2 l0 l1 l2 h0 h1 (Decidable.byContradiction fun h => hbe ⟨rfl, h⟩) l1.length 0 [] (by omega) (by simp)
            simpa using this
    cases inB (l0.length : Int) 1 8
    · simp only [Bool.false_eq_true, if_false]
      rcases fin false with h | ⟨h, _⟩
      · simpa using h
      · cases h
    · simp only [if_true]
      by_cases he : l2.length = l0.length
      · have e : ((l2.length : Int) == (l0.length : Int)) = true := beq_iff_eq.2 (by omega)
        rw [e]
        rcases fin true with h | ⟨_, h⟩
        · simp only [if_true] at h
          simp only [if_pos he]
          exact h
        · exact absurd he h
      · have e : ((l2.length : Int) == (l0.length : Int)) = false := beq_eq_false_iff_ne.2 (by omega)
        rw [e]
        rcases fin false with h | ⟨h, _⟩
        · simp only [if_neg he]
          have e2 : (if dup l0 = true then (([], 2) : List B × Int) else ([], 2)) = ([], 2) := by split <;> rfl
          rw [e2]
          simpa using h
        · cases h)
  have e : (if ((List.range l2.length).all fun j => bB (l2.getD j z71)) = true then (if inB (l0.length : Int) 1 8 = true then (if dup l0 = true then (([], 2) : List B × Int) else if l2.length = l0.length then (if l1.length > 100 then ([], 3) else rev l0 l2 l1 []) else ([], 2)) else ([], 2)) else ([], 1)) = out l0 l1 l2 := by
    rw [← all_range l2 z71 bB]
    unfold out code
    cases l2.all bB <;> cases inB (l0.length : Int) 1 8 <;> cases dup l0 <;> by_cases he : l2.length = l0.length <;> simp [he]
  rw [← e]
  exact key
theorem rev_len (l0 : List Int) (l2 : List B) : ∀ (l o : List _), (rev l0 l2 l o).1.length ≤ o.length + l.length
  | [], o => by simp [rev]
  | x :: r, o => by
    rw [rev]
    split
    · simp
    · have := rev_len l0 l2 r (o ++ [l2.getD (idxI l0 x).toNat z71])
      simp at this ⊢
      omega
theorem out_len (l0 l1 : List Int) (l2 : List B) : (out l0 l1 l2).1.length ≤ 100 := by
  unfold out
  split
  · split
    · simp
    · have := rev_len l0 l2 l1 []
      simp at this
      omega
  · simp
theorem sz_tells (l : List S76) (hl : l.length * 4 ≤ 140737488351232) (n : Int) (h0 : 0 ≤ n) (h1 : n ≤ 1048576) : laws_szBottleS.f l n = some (if n - (l.length : Int) < 0 then -1 else n - (l.length : Int)) := by
  unfold laws_szBottleS.f
  rw [w_id (x := n - (l.length : Int)) (by omega) (by omega)]
  split <;> rfl
theorem FnExactRevealOrder : SayFnExactRevealOrder.Pure := by
  intro a b c ha _ hb _ hc _
  refine Ev.rounds (?_ : Ev (fun k => laws_FnExactRevealOrder.f k a b c) true)
  unfold laws_FnExactRevealOrder.f
  by_cases g1 : (a.length : Int) > 1048576
  · simp only [if_pos g1]; exact Ev.now _
  by_cases g2 : (b.length : Int) > 1048576
  · simp only [if_neg g1, if_pos g2]; exact Ev.now _
  simp only [if_neg g1, if_neg g2, sz_tells c hc 1048576 (by omega) (by omega), Option.bind_some]
  by_cases h1 : (1048576 : Int) - (c.length : Int) < 0
  · simp only [if_pos h1, if_pos (show (-1 : Int) < 0 by omega)]
    exact Ev.now _
  · simp only [if_neg h1]
    have T1 := ev_of (toInt64S_tells a ha)
    have T2 := ev_of (toInt64S_tells b hb)
    have T3 := ev_of (toBottleS_tells c hc)
    have hl3 : (c.map cBottle).length = c.length := by simp
    generalize c.map cBottle = C at T3 hl3
    have t1 := spec_tells a b C (by omega) (by omega) (by omega)
    have t2 : impl_RevealOrder.f a b C = some (out a b C) := by unfold impl_RevealOrder.f; rw [if_pos ⟨by omega, by omega, by omega⟩]
    have t3 := out_len a b C
    generalize out a b C = O at t1 t2 t3
    obtain ⟨O1, O2⟩ := O
    simp only at t3
    have A1 := ev_of (eqInt64S_tells a (by omega))
    have A2 := ev_of (eqInt64S_tells b (by omega))
    have A3 := ev_of (eqBottleS_tells C (by omega))
    have A4 := ev_of (eqBottleS_tells O1 (by omega))
    have A5 := ev_of (markInt64S_tells a (by omega) 1 (by omega) (by omega))
    have q1 : 0 ≤ cnt 1 1 a.length ∧ cnt 1 1 a.length ≤ 1152921504606846976 := by unfold cnt; omega
    have A6 := ev_of (markInt64S_tells b (by omega) (cnt 1 1 a.length) q1.1 q1.2)
    have q2 : 0 ≤ cnt (cnt 1 1 a.length) 1 b.length ∧ cnt (cnt 1 1 a.length) 1 b.length ≤ 1152921504606846976 := by unfold cnt; omega
    have A7 := ev_of (markBottleS_tells C (by omega) (cnt (cnt 1 1 a.length) 1 b.length) q2.1 q2.2)
    have A8 := ev_of (markBottleS_tells O1 (by omega) 1 (by omega) (by omega))
    have A9 := ev_of (heldBottleS_tells O1.length (by omega) 1 (by omega) (by omega))
    have Aa : ¬ (cnt (cnt (cnt 1 1 a.length) 1 b.length) 2 C.length < 0) := cnt_ok q2.1
    have Ab : ¬ (cnt 1 2 O1.length < 0) := cnt_ok (by omega)
    clear hl3 t3 h1 ha hb hc q1 q2 g1 g2
    repeat (first
      | exact Ev.now _
      | simp only [t2, Option.bind_some]
      | refine Ev.bind t1 ?_
      | refine Ev.bind T1 ?_
      | refine Ev.bind T2 ?_
      | refine Ev.bind T3 ?_
      | refine Ev.bind A1 ?_
      | refine Ev.bind A2 ?_
      | refine Ev.bind A3 ?_
      | refine Ev.bind A4 ?_
      | refine Ev.bind A5 ?_
      | refine Ev.bind A6 ?_
      | refine Ev.bind A7 ?_
      | refine Ev.bind A8 ?_
      | refine Ev.bind A9 ?_
      | simp only [if_true, bne_self, if_neg Bool.false_ne_true, if_neg Aa, if_neg Ab]
      | refine Ev.step (fun k => laws_FnExactRevealOrder.j0.eq_2 ..) ?_
      | refine Ev.step (fun k => laws_FnExactRevealOrder.j1.eq_2 ..) ?_
      | refine Ev.step (fun k => laws_FnExactRevealOrder.j2.eq_2 ..) ?_)
end Go.Proofs.Ytepokbejmnkogaa.PureFnExactRevealOrder
