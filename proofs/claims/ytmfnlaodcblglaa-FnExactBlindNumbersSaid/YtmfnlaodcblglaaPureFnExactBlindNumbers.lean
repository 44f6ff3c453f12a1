/- FnExactBlindNumbers: the program's blind numbers are the reference's, for all samples, steps and starts. No condition. -/
import Derived.Test.YtmfnlaodcblglaaSayFnExactBlindNumbers
import Derived.Test.YtmfnlaodcblglaaFHpI64
import Derived.Test.YtmfnlaodcblglaaFVMarks
import Derived.Test.YtmfnlaodcblglaaFLibI64
namespace Go.Proofs.Ytmfnlaodcblglaa.PureFnExactBlindNumbers
open Go.RowKit Go.Proofs.YtmfnlaodcblglaaW.PrintWords Go.Proofs.Ytmfnlaodcblglaa.G Go.Proofs.Ytmfnlaodcblglaa.SayFnExactBlindNumbers Go.Proofs.Ytmfnlaodcblglaa.Wk Go.Proofs.Ytmfnlaodcblglaa.Pl
set_option linter.unusedSimpArgs false
set_option linter.unusedVariables false

/-- Both ways of asking whether a step and 900 share a divisor: the same answer. -/
def chk (s : Int) : Bool := match spec_l05Common.f 20 900 s, impl_multiple.f 20 s 900 with
  | some g, some m => decide (g > 1) == !decide (m = wrap64 (900 * s))
  | _, _ => false
theorem chk_all : ((List.range 899).all fun n => chk ((n : Int) + 1)) = true := by decide +kernel
theorem share (s : Int) (h0 : 1 ≤ s) (h1 : s ≤ 899) : ∃ g m, Ev (fun k => spec_l05Common.f k 900 s) g ∧ Ev (fun k => impl_multiple.f k s 900) m ∧ (g > 1 ↔ m ≠ wrap64 (900 * s)) := by
  have h := List.all_eq_true.1 chk_all (s - 1).toNat (List.mem_range.2 (by omega))
  rw [show (((s - 1).toNat : Nat) : Int) + 1 = s by omega] at h
  unfold chk at h
  cases hg : spec_l05Common.f 20 900 s with
  | none => simp [hg] at h
  | some g =>
    cases hm : impl_multiple.f 20 s 900 with
    | none => simp [hg, hm] at h
    | some m =>
      refine ⟨g, m, Ev.of (fun k => spec_l05Common.mono _ _ k) hg, Ev.of (fun k => impl_multiple.mono _ _ k) hm, ?_⟩
      simp only [hg, hm] at h
      by_cases h1 : g > 1 <;> by_cases h2 : m = wrap64 (900 * s) <;> simp [h1, h2] at h ⊢
def nums (n : Int) (st sd : Int) (i : Nat) : List Int := (List.range i).map fun (j : Nat) => wrap64 (100 + (Int.tmod (wrap64 (sd + (wrap64 ((j : Int) * st)))) 900))
theorem nums_snoc (n : Int) (st sd : Int) (i : Nat) : nums n st sd i ++ [wrap64 (100 + (Int.tmod (wrap64 (sd + (wrap64 ((i : Int) * st)))) 900))] = nums n st sd (i + 1) := by
  simp [nums, List.range_succ]
theorem spec_loop (n : Nat) (hn : n ≤ 8) (st sd : Int) : Ev (fun k => spec_BlindNumbers.l0 k n st sd [] 0) (nums n st sd n, 0) := by
  have h := ev_steps (F := fun k i (x : List Int) => spec_BlindNumbers.l0 k n st sd x i) 0 n (Nat.zero_le _) (fun i => nums n st sd i) (nums n st sd n, 0) (fun i _ hi h => by
    refine Ev.step (fun k => spec_BlindNumbers.l0.eq_2 n st sd _ i k) ?_
    simp only [if_pos (show (i : Int) < (n : Int) by omega), if_pos (show (nums n st sd i).length < 17592186044416 by simp [nums]; omega), nums_snoc, w_i hi (show n ≤ 4611686018427387904 by omega)]
    exact h) (by
    refine Ev.step (fun k => spec_BlindNumbers.l0.eq_2 n st sd _ n k) ?_
    simp only [if_neg (show ¬ ((n : Int) < (n : Int)) by omega)]
    exact Ev.now _)
  exact h
theorem impl_loop (n : Nat) (hn : n ≤ 8) (st sd : Int) : Ev (fun k => impl_BlindNumbers.l0 k st sd [] n 0) (nums n st sd n, 0) := by
  have h := ev_steps (F := fun k i (x : List Int) => impl_BlindNumbers.l0 k st sd x n i) 0 n (Nat.zero_le _) (fun i => nums n st sd i) (nums n st sd n, 0) (fun i _ hi h => by
    refine Ev.step (fun k => impl_BlindNumbers.l0.eq_2 st sd _ n i k) ?_
    simp only [if_pos (show (i : Int) < (n : Int) by omega), if_pos (show (nums n st sd i).length < 17592186044416 by simp [nums]; omega), nums_snoc, w_i hi (show n ≤ 4611686018427387904 by omega)]
    exact h) (by
    refine Ev.step (fun k => impl_BlindNumbers.l0.eq_2 st sd _ n n k) ?_
    simp only [if_neg (show ¬ ((n : Int) < (n : Int)) by omega)]
    exact Ev.now _)
  exact h
theorem same (n st sd : Int) : ∃ r : List Int × Int, r.1.length ≤ 8 ∧ Ev (fun k => spec_BlindNumbers.f k n st sd) r ∧ Ev (fun k => impl_BlindNumbers.f k n st sd) r := by
  have bad : ∀ (k : Nat), spec_BlindNumbers.j0 (k + 1) n st sd [] true = some ([], 2) := fun k => by rw [spec_BlindNumbers.j0.eq_2, if_pos rfl]
  have bad2 : ∀ (k : Nat), impl_BlindNumbers.j0 (k + 1) n st sd true = some ([], 2) := fun k => by rw [impl_BlindNumbers.j0.eq_2, if_pos rfl]
  unfold spec_BlindNumbers.f impl_BlindNumbers.f spec_l07Samples.f
  simp only [l00In_tells2, within_tells2, areSamples_tells, Option.bind_some]
  cases h1 : inB n 1 8
  · simp only [if_neg Bool.false_ne_true]
    exact ⟨([], 2), by simp, Ev.step bad (Ev.now _), Ev.step bad2 (Ev.now _)⟩
  · cases h2 : inB st 1 899
    · simp only [if_true, if_neg Bool.false_ne_true]
      exact ⟨([], 2), by simp, Ev.step bad (Ev.now _), Ev.step bad2 (Ev.now _)⟩
    · cases h3 : inB sd 0 899
      · simp only [if_true, Bool.not_false]
        exact ⟨([], 2), by simp, Ev.step bad (Ev.now _), Ev.step bad2 (Ev.now _)⟩
      · simp only [if_true, Bool.not_true]
        simp only [inB, Bool.and_eq_true, decide_eq_true_eq] at h1 h2 h3
        obtain ⟨g, m, hg, hm, hgm⟩ := share st h2.1 h2.2
        obtain ⟨q, rfl⟩ : ∃ q : Nat, n = q := ⟨n.toNat, by omega⟩
        by_cases hb : g > 1
        · refine ⟨([], 4), by simp, Ev.step (fun k => spec_BlindNumbers.j0.eq_2 _ _ _ _ _ k) ?_, Ev.step (fun k => impl_BlindNumbers.j0.eq_2 _ _ _ _ k) ?_⟩
          · simp only [if_neg Bool.false_ne_true]
            refine Ev.bind hg ?_
            simp only [if_pos hb]
            exact Ev.now _
          · simp only [if_neg Bool.false_ne_true]
            refine Ev.bind hm ?_
            simp only [if_neg (hgm.1 hb)]
            exact Ev.now _
        · refine ⟨(nums q st sd q, 0), by simp [nums]; omega, Ev.step (fun k => spec_BlindNumbers.j0.eq_2 _ _ _ _ _ k) ?_, Ev.step (fun k => impl_BlindNumbers.j0.eq_2 _ _ _ _ k) ?_⟩
          · simp only [if_neg Bool.false_ne_true]
            refine Ev.bind hg ?_
            simp only [if_neg hb]
            exact spec_loop q (by omega) st sd
          · simp only [if_neg Bool.false_ne_true]
            refine Ev.bind hm ?_
            simp only [if_pos (show m = wrap64 (900 * st) from Decidable.byContradiction fun h => hb (hgm.2 h))]
            exact impl_loop q (by omega) st sd
theorem FnExactBlindNumbers : SayFnExactBlindNumbers.Pure := by
  intro n st sd _ _ _
  obtain ⟨r, hl, hs, hi⟩ := same n st sd
  refine Ev.rounds (?_ : Ev (fun k => laws_FnExactBlindNumbers.f k n st sd) true)
  unfold laws_FnExactBlindNumbers.f
  repeat (first
    | exact Ev.now _
    | refine Ev.bind (by first | exact hs | exact hi | exact ev_of (eqInt64S_tells _ (by omega)) | exact ev_of (markInt64S_tells _ (by omega) 1 (by omega) (by omega)) | exact ev_of (heldInt64S_tells _ (by omega) 1 (by omega) (by omega))) ?_
    | simp only [if_true, bne_self, if_neg Bool.false_ne_true, if_neg (cnt_ok (show (0 : Int) ≤ 1 by omega))]
    | refine Ev.step (fun k => laws_FnExactBlindNumbers.j0.eq_2 _ _ _ _ _ _ _ k) ?_
    | refine Ev.step (fun k => laws_FnExactBlindNumbers.j1.eq_2 _ _ _ k) ?_)
end Go.Proofs.Ytmfnlaodcblglaa.PureFnExactBlindNumbers
