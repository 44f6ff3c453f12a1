/- FnExactLentBetween: the program's LentBetween answers as the reference's does, for all ledgers that the law lets in and all parties. No condition. -/
import Derived.Test.YtodlaafabnmbhaaSayFnExactLentBetween
import Derived.Test.YtodlaafabnmbhaaFHpEntry
import Derived.Test.YtodlaafabnmbhaaFLibEntry
import Derived.Test.YtodlaafabnmbhaaFAreHeld
namespace Go.Proofs.Ytodlaafabnmbhaa.PureFnExactLentBetween
open Go.RowKit Go.Proofs.YtodlaafabnmbhaaW.PrintWords Go.Proofs.Ytodlaafabnmbhaa.G Go.Proofs.Ytodlaafabnmbhaa.SayFnExactLentBetween Go.Proofs.Ytodlaafabnmbhaa.Wk Go.Proofs.Ytodlaafabnmbhaa.Pl
set_option linter.unusedSimpArgs false
set_option linter.unusedVariables false

def step (a b : Int) (s : Int) (e : S33) : Int := if e.f3 = 2 then (if wrap64 e.f1 = a ∧ wrap64 e.f2 = b then wrap64 (s + wrap64 e.f4) else if wrap64 e.f1 = b ∧ wrap64 e.f2 = a then wrap64 (s - wrap64 e.f4) else s) else s
def lent (p : Int) (l : List S33) (a b : Int) : Int × Int := if ledgerB p l = true then (if inB a 0 (wrap64 (p - 1)) = true ∧ inB b 0 (wrap64 (p - 1)) = true ∧ a ≠ b then (l.foldl (step a b) 0, 0) else (0, 2)) else (0, 1)
theorem l00In_tells (x lo hi : Int) : spec_l00In.f x lo hi = some (inB x lo hi) := by
  unfold spec_l00In.f inB
  by_cases h : lo ≤ x <;> simp [h]
theorem spec_loop (l : List S33) (a b : Int) (hl : l.length ≤ 1048576) : Ev (fun k => spec_LentBetween.l0 k l a b 0 0) (l.foldl (step a b) 0, (0 : Int)) := by
  refine ev_fold (F := fun k i (s : Int) => spec_LentBetween.l0 k l a b s i) l z33 (step a b) (fun s => (s, (0 : Int))) (fun i s r hi h => ?_) (fun s => ?_) 0
  · have h3 : (i : Int) < (l.length : Int) := by omega
    have hw := w_i (by omega : i < l.length) (by omega)
    refine Ev.step (fun k => spec_LentBetween.l0.eq_2 ..) ?_
    simp only [if_pos h3, if_pos (show (0 : Int) ≤ i by omega)]
    simp only [show (rd_T33 l (i : Int)) = l.getD i z33 from rfl]
    unfold step at h
    generalize l.getD i z33 = y at h ⊢
    by_cases h2 : y.f3 = 2
    · simp only [if_pos h2] at h ⊢
      have tail : ∀ (_ : Ev (fun k => spec_LentBetween.l0 k l a b (if wrap64 y.f1 = b ∧ wrap64 y.f2 = a then wrap64 (s - wrap64 y.f4) else s) ((i + 1 : Nat) : Int)) r),
          Ev (fun k => if wrap64 y.f1 = b then (if wrap64 y.f2 = a then spec_LentBetween.l0 k l a b (wrap64 (s - wrap64 y.f4)) (wrap64 ((i : Int) + 1)) else spec_LentBetween.l0 k l a b s (wrap64 ((i : Int) + 1))) else spec_LentBetween.l0 k l a b s (wrap64 ((i : Int) + 1))) r := by
        intro h
        rw [hw]
        by_cases e3 : wrap64 y.f1 = b
        · by_cases e4 : wrap64 y.f2 = a
          · rw [if_pos ⟨e3, e4⟩] at h
            simpa only [if_pos e3, if_pos e4] using h
          · rw [if_neg (fun h => e4 h.2)] at h
            simpa only [if_pos e3, if_neg e4] using h
        · rw [if_neg (fun h => e3 h.1)] at h
          simpa only [if_neg e3] using h
      by_cases e1 : wrap64 y.f1 = a
      · simp only [if_pos e1]
        refine Ev.step (fun k => spec_LentBetween.j2.eq_2 ..) ?_
        by_cases e2 : wrap64 y.f2 = b
        · rw [if_pos ⟨e1, e2⟩] at h
          have e : (wrap64 y.f2 == b) = true := by simp [e2]
          simp only [e, if_true, hw]
          exact h
        · rw [if_neg (fun h => e2 h.2)] at h
          have e : (wrap64 y.f2 == b) = false := by simp [e2]
          simp only [e, if_neg Bool.false_ne_true]
          exact tail h
      · simp only [if_neg e1]
        refine Ev.step (fun k => spec_LentBetween.j2.eq_2 ..) ?_
        rw [if_neg (fun h => e1 h.1)] at h
        simp only [if_neg Bool.false_ne_true]
        exact tail h
    · simp only [if_neg h2] at h ⊢
      rw [hw]
      exact h
  · refine Ev.step (fun k => spec_LentBetween.l0.eq_2 ..) ?_
    simp only [if_neg (show ¬ ((l.length : Int) < l.length) by omega)]
    exact Ev.now _
theorem impl_loop (l : List S33) (a b : Int) (hl : l.length ≤ 1048576) : Ev (fun k => impl_LentBetween.l0 k a b 0 l (l.length : Int) 0) (l.foldl (step a b) 0, (0 : Int)) := by
  refine ev_fold (F := fun k i (s : Int) => impl_LentBetween.l0 k a b s l (l.length : Int) i) l z33 (step a b) (fun s => (s, (0 : Int))) (fun i s r hi h => ?_) (fun s => ?_) 0
  · have h3 : (i : Int) < (l.length : Int) := by omega
    have hw := w_i (by omega : i < l.length) (by omega)
    refine Ev.step (fun k => impl_LentBetween.l0.eq_2 ..) ?_
    simp only [if_pos h3, if_pos (show (0 : Int) ≤ i by omega)]
    simp only [show (rd_T33 l (i : Int)) = l.getD i z33 from rfl]
    unfold step at h
    generalize l.getD i z33 = y at h ⊢
    by_cases h2 : y.f3 = 2
    · simp only [if_pos h2] at h ⊢
      have tail : ∀ (_ : Ev (fun k => impl_LentBetween.l0 k a b (if wrap64 y.f1 = b ∧ wrap64 y.f2 = a then wrap64 (s - wrap64 y.f4) else s) l (l.length : Int) ((i + 1 : Nat) : Int)) r),
          Ev (fun k => if wrap64 y.f1 = b then (if wrap64 y.f2 = a then impl_LentBetween.l0 k a b (wrap64 (s - wrap64 y.f4)) l (l.length : Int) (wrap64 ((i : Int) + 1)) else impl_LentBetween.l0 k a b s l (l.length : Int) (wrap64 ((i : Int) + 1))) else impl_LentBetween.l0 k a b s l (l.length : Int) (wrap64 ((i : Int) + 1))) r := by
        intro h
        rw [hw]
        by_cases e3 : wrap64 y.f1 = b
        · by_cases e4 : wrap64 y.f2 = a
          · rw [if_pos ⟨e3, e4⟩] at h
            simpa only [if_pos e3, if_pos e4] using h
          · rw [if_neg (fun h => e4 h.2)] at h
            simpa only [if_pos e3, if_neg e4] using h
        · rw [if_neg (fun h => e3 h.1)] at h
          simpa only [if_neg e3] using h
      by_cases e1 : wrap64 y.f1 = a
      · simp only [if_pos e1]
        refine Ev.step (fun k => impl_LentBetween.j2.eq_2 ..) ?_
        by_cases e2 : wrap64 y.f2 = b
        · rw [if_pos ⟨e1, e2⟩] at h
          have e : (wrap64 y.f2 == b) = true := by simp [e2]
          simp only [e, if_true, hw]
          exact h
        · rw [if_neg (fun h => e2 h.2)] at h
          have e : (wrap64 y.f2 == b) = false := by simp [e2]
          simp only [e, if_neg Bool.false_ne_true]
          exact tail h
      · simp only [if_neg e1]
        refine Ev.step (fun k => impl_LentBetween.j2.eq_2 ..) ?_
        rw [if_neg (fun h => e1 h.1)] at h
        simp only [if_neg Bool.false_ne_true]
        exact tail h
    · simp only [if_neg h2] at h ⊢
      rw [hw]
      exact h
  · refine Ev.step (fun k => impl_LentBetween.l0.eq_2 ..) ?_
    simp only [if_neg (show ¬ ((l.length : Int) < l.length) by omega)]
    exact Ev.now _
theorem spec_tells (p : Int) (l : List S33) (a b : Int) (hl : l.length ≤ 1048576) : Ev (fun k => spec_LentBetween.f k p l a b) (lent p l a b) := by
  unfold spec_LentBetween.f spec_l06Ledger.f lent
  simp only [Option.bind_some, l00In_tells]
  cases ledgerB p l
  · simp only [if_neg Bool.false_ne_true]
    exact Ev.now _
  · simp only [if_true]
    cases inB a 0 (wrap64 (p - 1))
    · simp only [Bool.false_eq_true, false_and, if_false]
      exact Ev.step (fun k => by rw [spec_LentBetween.j0.eq_2, if_pos rfl]) (Ev.now _)
    · cases inB b 0 (wrap64 (p - 1))
      · simp only [if_true, Bool.false_eq_true, false_and, and_false, if_false]
        exact Ev.step (fun k => by rw [spec_LentBetween.j0.eq_2, if_pos rfl]) (Ev.now _)
      · simp only [if_true, true_and]
        refine Ev.step (fun k => spec_LentBetween.j0.eq_2 ..) ?_
        by_cases e : a = b
        · simp only [e, beq_self_eq_true, if_true, ne_eq, not_true_eq_false, if_false]
          exact Ev.now _
        · have e' : (a == b) = false := by simp [e]
          simp only [e', if_neg Bool.false_ne_true, ne_eq, e, not_false_eq_true, if_true]
          exact spec_loop l a b hl
theorem codeOf_tells (x y : Bool) : impl_codeOf.f x y = some (if x = true then (if y = true then 0 else 2) else 1) := by
  unfold impl_codeOf.f
  cases x <;> cases y <;> rfl
theorem impl_tells (p : Int) (l : List S33) (a b : Int) (hl : l.length ≤ 1048576) : Ev (fun k => impl_LentBetween.f k p l a b) (lent p l a b) := by
  unfold impl_LentBetween.f lent impl_isParty.f
  simp only [Option.bind_some, pw_within_tells, codeOf_tells]
  refine Ev.bind (ev_of (validLedger_tells p l (by omega))) ?_
  cases ledgerB p l
  · simp only [if_neg Bool.false_ne_true]
    split <;> (try split) <;> exact Ev.step (fun k => by rw [impl_LentBetween.j0.eq_2, if_neg (by omega)]) (Ev.now _)
  · simp only [if_true]
    cases inB a 0 (wrap64 (p - 1))
    · simp only [Bool.false_eq_true, false_and, if_false]
      exact Ev.step (fun k => by rw [impl_LentBetween.j0.eq_2, if_neg (by omega)]) (Ev.now _)
    · cases inB b 0 (wrap64 (p - 1))
      · simp only [if_true, Bool.false_eq_true, false_and, and_false, if_false]
        exact Ev.step (fun k => by rw [impl_LentBetween.j0.eq_2, if_neg (by omega)]) (Ev.now _)
      · simp only [if_true, true_and]
        refine Ev.step (fun k => impl_LentBetween.j0.eq_2 ..) ?_
        by_cases e : a = b
        · have e' : (a != b) = false := by simp [e]
          simp only [e', if_neg Bool.false_ne_true]
          simp [e]
          exact Ev.now _
        · have e' : (a != b) = true := by simp [e]
          simp only [e', if_true, ne_eq, e, not_false_eq_true]
          exact impl_loop l a b hl
theorem FnExactLentBetween : SayFnExactLentBetween.Pure := by
  intro p l a b _ hl _ _ _
  refine Ev.rounds (?_ : Ev (fun k => laws_FnExactLentBetween.f k p l a b) true)
  unfold laws_FnExactLentBetween.f
  simp only [szEntryS_tells l hl 1048576 (by omega) (by omega), Option.bind_some]
  by_cases hbig : (1048576 : Int) < l.length
  · simp only [if_pos hbig]
    exact Ev.now _
  · simp only [if_neg hbig, if_neg (show ¬ ((1048576 : Int) - l.length < 0) by omega)]
    repeat (first
      | exact Ev.now _
      | refine Ev.bind (by first | exact ev_of (toEntryS_tells l hl) | exact spec_tells _ _ _ _ (by simp; omega) | exact impl_tells _ _ _ _ (by simp; omega) | exact ev_of (eqEntryS_tells _ (by simp; omega))) ?_
      | simp only [if_true, bne_self, if_neg Bool.false_ne_true]
      | refine Ev.step (fun k => laws_FnExactLentBetween.j0.eq_2 ..) ?_)
end Go.Proofs.Ytodlaafabnmbhaa.PureFnExactLentBetween
