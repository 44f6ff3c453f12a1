/- FnExactNetsOf: the program's NetsOf answers as the reference's does, for all holdings that the law lets in; its result shares no memory. No condition. -/
import Derived.Test.YtodlaafabnmbhaaSayFnExactNetsOf
import Derived.Test.YtodlaafabnmbhaaFHpHold
import Derived.Test.YtodlaafabnmbhaaFHpI64
import Derived.Test.YtodlaafabnmbhaaFLibHold
namespace Go.Proofs.Ytodlaafabnmbhaa.PureFnExactNetsOf
open Go.RowKit Go.Proofs.YtodlaafabnmbhaaW.PrintWords Go.Proofs.Ytodlaafabnmbhaa.G Go.Proofs.Ytodlaafabnmbhaa.SayFnExactNetsOf Go.Proofs.Ytodlaafabnmbhaa.Wk Go.Proofs.Ytodlaafabnmbhaa.Pl
set_option linter.unusedSimpArgs false
set_option linter.unusedVariables false
/-- The nets, and the code. -/
def nets (l : List S40) : List Int × Int := if holdsCode l = 0 then (l.map fun h => h.f4, 0) else ([], holdsCode l)
theorem nets_len (l : List S40) (n : Nat) (h : l.length ≤ n) : (nets l).1.length ≤ n := by
  unfold nets
  split <;> simp <;> omega
theorem spec_tells (l : List S40) : Ev (fun k => spec_NetsOf.f k l) (nets l) := by
  unfold spec_NetsOf.f spec_l06Holdings.f nets
  simp only [Option.bind_some]
  rcases holdsCode_cases l with ⟨h, h1, h2, _⟩ | h | h
  · simp only [h, if_true]
    have := ev_foldI (F := fun k i s => spec_NetsOf.l0 k l s i) l z40 (fun s (x : S40) => s ++ [x.f4]) (fun s => (s, (0 : Int))) (fun i s => s.length = i) (fun i s hi h => by simp [h]) (fun i s r hi hI h => by
      refine Ev.step (fun k => ?_) h
      have h3 : (i : Int) < (l.length : Int) := by omega
      simp only [spec_NetsOf.l0]
      rw [if_pos h3, if_pos (by omega), if_pos (by omega), w_i (by omega : i < l.length) (by omega)]
      rfl) (fun s hI => Ev.step (fun k => by simp only [spec_NetsOf.l0]; rw [if_neg (by omega)]) (Ev.now _)) [] rfl
    rw [fold_map] at this
    simpa using this
  · simp only [h]
    exact Ev.now _
  · simp only [h]
    exact Ev.now _
theorem impl_tells (l : List S40) : Ev (fun k => impl_NetsOf.f k l) (nets l) := by
  unfold impl_NetsOf.f nets
  have hc := codeOf_holds l
  simp only [impl_areParties.f, impl_areHeld.f, within_tells, Option.bind_some] at hc ⊢
  rw [hc]
  simp only [Option.bind_some]
  rcases holdsCode_cases l with ⟨h, h1, h2, _⟩ | h | h
  · simp only [h, if_true]
    have := ev_foldI (F := fun k i s => impl_NetsOf.l0 k s l (l.length : Int) i) l z40 (fun s (x : S40) => s ++ [x.f4]) (fun s => (s, (0 : Int))) (fun i s => s.length = i) (fun i s hi h => by simp [h]) (fun i s r hi hI h => by
      refine Ev.step (fun k => ?_) h
      have h3 : (i : Int) < (l.length : Int) := by omega
      simp only [impl_NetsOf.l0]
      rw [if_pos h3, if_pos (by omega), if_pos h3, if_pos (by omega), w_i (by omega : i < l.length) (by omega)]
      rfl) (fun s hI => Ev.step (fun k => by simp only [impl_NetsOf.l0]; rw [if_neg (by omega)]) (Ev.now _)) [] rfl
    rw [fold_map] at this
    simpa using this
  · simp only [h]
    exact Ev.now _
  · simp only [h]
    exact Ev.now _
theorem FnExactNetsOf : SayFnExactNetsOf.Pure := by
  intro l hl _
  refine Ev.rounds (?_ : Ev (fun k => laws_FnExactNetsOf.f k l) true)
  unfold laws_FnExactNetsOf.f
  simp only [szHoldingS_tells l hl 1048576 (by omega) (by omega), Option.bind_some]
  by_cases hbig : (1048576 : Int) < l.length
  · simp only [if_pos hbig]
    exact Ev.now _
  · simp only [if_neg hbig, if_neg (show ¬ ((1048576 : Int) - l.length < 0) by omega)]
    have hn : (nets (l.map cHolding)).1.length ≤ 1048576 := nets_len _ _ (by simp; omega)
    repeat (first
      | exact Ev.now _
      | refine Ev.bind (by first | exact ev_of (toHoldingS_tells l hl) | exact spec_tells _ | exact impl_tells _ | exact ev_of (eqInt64S_tells _ (by omega)) | exact ev_of (eqHoldingS_tells _ (by simp; omega)) | exact ev_of (markHoldingS_tells _ (by simp; omega) 1 (by omega) (by omega)) | exact ev_of (markInt64S_tells _ (by omega) 1 (by omega) (by omega)) | exact ev_of (heldInt64S_tells _ (by omega) 1 (by omega) (by omega))) ?_
      | simp only [if_true, bne_self, if_neg Bool.false_ne_true, if_neg (cnt_ok (show (0 : Int) ≤ 1 by omega))]
      | refine Ev.step (fun k => laws_FnExactNetsOf.j0.eq_2 ..) ?_
      | refine Ev.step (fun k => laws_FnExactNetsOf.j1.eq_2 ..) ?_
      | refine Ev.step (fun k => laws_FnExactNetsOf.j2.eq_2 ..) ?_)
end Go.Proofs.Ytodlaafabnmbhaa.PureFnExactNetsOf
