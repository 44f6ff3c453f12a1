/- FnExactSumOf: the program's SumOf answers as the reference's does, for all holdings that the law lets in. No condition. -/
import Derived.Test.YtodlaafabnmbhaaSayFnExactSumOf
import Derived.Test.YtodlaafabnmbhaaFHpHold
import Derived.Test.YtodlaafabnmbhaaFLibHold
namespace Go.Proofs.Ytodlaafabnmbhaa.PureFnExactSumOf
open Go.RowKit Go.Proofs.YtodlaafabnmbhaaW.PrintWords Go.Proofs.Ytodlaafabnmbhaa.G Go.Proofs.Ytodlaafabnmbhaa.SayFnExactSumOf Go.Proofs.Ytodlaafabnmbhaa.Wk Go.Proofs.Ytodlaafabnmbhaa.Pl
set_option linter.unusedSimpArgs false
set_option linter.unusedVariables false

def step (s : Int × Int × Int × Int × Int) (h : S40) : Int × Int × Int × Int × Int := (wrap64 (s.1 + h.f0), wrap64 (s.2.1 + h.f1), wrap64 (s.2.2.1 + h.f2), wrap64 (s.2.2.2.1 + h.f3), wrap64 (s.2.2.2.2 + h.f4))
def fin (s : Int × Int × Int × Int × Int) : Int × Int × Int × Int × Int × Int := (s.1, s.2.1, s.2.2.1, s.2.2.2.1, s.2.2.2.2, 0)
def sum (l : List S40) : Int × Int × Int × Int × Int × Int := if holdsCode l = 0 then fin (l.foldl step (0, 0, 0, 0, 0)) else (0, 0, 0, 0, 0, holdsCode l)
theorem spec_tells (l : List S40) : Ev (fun k => spec_SumOf.f k l) (sum l) := by
  unfold spec_SumOf.f spec_l06Holdings.f sum
  simp only [Option.bind_some]
  rcases holdsCode_cases l with ⟨h, h1, h2, _⟩ | h | h
  · simp only [h, if_true]
    refine ev_fold (F := fun k i (s : Int × Int × Int × Int × Int) => spec_SumOf.l0 k l i s.1 s.2.1 s.2.2.1 s.2.2.2.1 s.2.2.2.2) l z40 step fin (fun i s r hi h => ?_) (fun s => ?_) (0, 0, 0, 0, 0)
    · refine Ev.step (fun k => ?_) h
      have h3 : (i : Int) < (l.length : Int) := by omega
      simp only [spec_SumOf.l0]
      rw [if_pos h3, if_pos (by omega), w_i (by omega : i < l.length) (by omega)]
      rfl
    · refine Ev.step (fun k => ?_) (Ev.now _)
      simp only [spec_SumOf.l0]
      rw [if_neg (by omega)]
      rfl
  · simp only [h]
    exact Ev.now _
  · simp only [h]
    exact Ev.now _
theorem impl_tells (l : List S40) : Ev (fun k => impl_SumOf.f k l) (sum l) := by
  unfold impl_SumOf.f sum
  have hc := codeOf_holds l
  simp only [impl_areParties.f, impl_areHeld.f, within_tells, Option.bind_some] at hc ⊢
  rw [hc]
  simp only [Option.bind_some]
  rcases holdsCode_cases l with ⟨h, h1, h2, _⟩ | h | h
  · simp only [h, if_true]
    refine ev_fold (F := fun k i (s : Int × Int × Int × Int × Int) => impl_SumOf.l0 k l (l.length : Int) i s.1 s.2.1 s.2.2.1 s.2.2.2.1 s.2.2.2.2) l z40 step fin (fun i s r hi h => ?_) (fun s => ?_) (0, 0, 0, 0, 0)
    · refine Ev.step (fun k => ?_) h
      have h3 : (i : Int) < (l.length : Int) := by omega
      simp only [impl_SumOf.l0]
      rw [if_pos h3, if_pos (by omega), if_pos h3, w_i (by omega : i < l.length) (by omega)]
      rfl
    · refine Ev.step (fun k => ?_) (Ev.now _)
      simp only [impl_SumOf.l0]
      rw [if_neg (by omega)]
      rfl
  · simp only [h]
    exact Ev.now _
  · simp only [h]
    exact Ev.now _
theorem eq1_tells (a b c d e : Int) : laws_eqHolding.f a b c d e a b c d e = some true := by
  unfold laws_eqHolding.f
  simp
theorem FnExactSumOf : SayFnExactSumOf.Pure := by
  intro l hl _
  refine Ev.rounds (?_ : Ev (fun k => laws_FnExactSumOf.f k l) true)
  unfold laws_FnExactSumOf.f
  simp only [szHoldingS_tells l hl 1048576 (by omega) (by omega), Option.bind_some]
  by_cases hbig : (1048576 : Int) < l.length
  · simp only [if_pos hbig]
    exact Ev.now _
  · simp only [if_neg hbig, if_neg (show ¬ ((1048576 : Int) - l.length < 0) by omega)]
    repeat (first
      | exact Ev.now _
      | refine Ev.bind (by first | exact ev_of (toHoldingS_tells l hl) | exact spec_tells _ | exact impl_tells _ | exact ev_of (eqHoldingS_tells _ (by simp; omega))) ?_
      | simp only [if_true, bne_self, if_neg Bool.false_ne_true, eq1_tells, Option.bind_some]
      | refine Ev.step (fun k => laws_FnExactSumOf.j0.eq_2 ..) ?_)
end Go.Proofs.Ytodlaafabnmbhaa.PureFnExactSumOf
