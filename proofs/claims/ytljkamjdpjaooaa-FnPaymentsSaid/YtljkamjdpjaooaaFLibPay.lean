/- Plain laws on nets. -/
import Derived.Test.YtljkamjdpjaooaaPl
import Derived.Test.YtljkamjdpjaooaaFAllW
import Derived.Test.YtljkamjdpjaooaaG3
import Derived.Test.YtljkamjdpjaooaaG5
import Derived.Test.YtljkamjdpjaooaaG2
namespace Go.Proofs.Ytljkamjdpjaooaa.G
open Go.RowKit Go.Proofs.YtljkamjdpjaooaaW.PrintWords Go.Proofs.YtljkamjdpjaooaaW.PrintLast Go.Proofs.YtljkamjdpjaooaaW.PrintMore
attribute [local go_sem] max2_int min2_int max_two min_two max_three min_three max_four min_four   -- for this text's walks alone
set_option linter.unusedVariables false
set_option linter.unusedSimpArgs false

open Go.Proofs.Ytljkamjdpjaooaa.Wk Go.Proofs.Ytljkamjdpjaooaa.Pl
namespace Pay
theorem within_t (x lo hi : Int) : impl_within.f x lo hi = some (inB x lo hi) := by
  unfold impl_within.f inB
  by_cases h : lo ≤ x <;> simp [h]
/-- The sum of nets. -/
def netsSum (l : List Int) : Int := l.foldl (fun s x => wrap64 (s + x)) 0
/-- The code of nets. -/
def netsC (l : List Int) : Int := if inB (l.length : Int) 1 6 = true then (if allB l (-1000000000) 1000000000 = true then (if netsSum l = 0 then 0 else 4) else 2) else 1
theorem inB16 {n : Nat} (h : inB (n : Int) 1 6 = true) : n ≤ 6 := by have := inB_iff.1 h; omega
theorem netsCode_tells (l : List Int) : Ev (fun k => impl_netsCode.f k l) (netsC l) := by
  unfold impl_netsCode.f netsC impl_areParties.f impl_allWithin.f
  simp only [within_t, Option.bind_some, impl_codeOf.f]
  cases h1 : inB (l.length : Int) 1 6
  · simp only [Bool.false_eq_true, if_false, Option.bind_some, if_neg (show ¬ ((1 : Int) = 0) by omega)]
    exact Ev.now _
  · have h6 := inB16 h1
    cases h2 : allB l (-1000000000) 1000000000
    · simp only [Bool.false_eq_true, if_false, if_true, Option.bind_some, if_neg (show ¬ ((2 : Int) = 0) by omega)]
      exact Ev.now _
    · simp only [if_true, Option.bind_some]
      exact ev_fold (F := fun k i s => impl_netsCode.l0 k s l (l.length : Int) i) l 0 (fun s x => wrap64 (s + x)) (fun s => if s = 0 then 0 else 4) (fun i s r hi h => by
        refine Ev.step (fun k => ?_) h
        have h3 : (i : Int) < (l.length : Int) := by omega
        simp only [impl_netsCode.l0]
        rw [if_pos h3, if_pos (by omega), if_pos h3, w_i hi (by omega)]
        rfl) (fun s => Ev.step (fun k => by simp only [impl_netsCode.l0]; rw [if_neg (by omega)]) (by by_cases hs : s = 0 <;> simp only [hs, if_true, if_false] <;> exact Ev.now _)) 0
theorem l00In_t (x lo hi : Int) : spec_l00In.f x lo hi = some (inB x lo hi) := by
  unfold spec_l00In.f inB
  by_cases h : lo ≤ x <;> simp [h]
theorem l06Nets_tells (l : List Int) : Ev (fun k => spec_l06Nets.f k l) (netsC l) := by
  unfold spec_l06Nets.f netsC
  simp only [l00In_t, Option.bind_some]
  cases h1 : inB (l.length : Int) 1 6
  · simp only [Bool.false_eq_true, if_false]
    exact Ev.now _
  · have h6 := inB16 h1
    simp only [if_true]
    have key : ∀ d (i : Nat) (s : Int), i + d = l.length → Ev (fun k => spec_l06Nets.l0 k l s i) (if ((l.drop i).all fun x => inB x (-1000000000) 1000000000) = true then (if (l.drop i).foldl (fun s x => wrap64 (s + x)) s = 0 then 0 else 4) else 2) := by
      intro d
      induction d with
      | zero =>
        intro i s hi
        obtain rfl : i = l.length := by omega
        refine Ev.step (fun k => by simp only [spec_l06Nets.l0]; rw [if_neg (by omega)]) ?_
        simp only [List.drop_length, List.all_nil, if_true, List.foldl_nil]
        by_cases hs : s = 0 <;> simp only [hs, if_true, if_false] <;> exact Ev.now _
      | succ d ih =>
        intro i s hi
        have hlt : i < l.length := by omega
        have h3 : (i : Int) < (l.length : Int) := by omega
        have hr : rd l (i : Int) = l[i] := by show l.getD i 0 = _; exact getD_lt hlt 0
        rw [List.drop_eq_getElem_cons hlt, List.all_cons, List.foldl_cons]
        cases hb : inB l[i] (-1000000000) 1000000000
        · refine Ev.step (f := fun _ => some 2) (fun k => ?_) ?_
          · simp only [spec_l06Nets.l0]
            rw [if_pos h3, if_pos (by omega), l00In_t, hr, hb]
            rfl
          · simp only [Bool.false_and, Bool.false_eq_true, if_false]
            exact Ev.now _
        · refine Ev.step (f := fun k => spec_l06Nets.l0 k l (wrap64 (s + l[i])) ((i + 1 : Nat) : Int)) (fun k => ?_) ?_
          · simp only [spec_l06Nets.l0]
            rw [if_pos h3, if_pos (by omega), l00In_t, hr, hb, w_i hlt (by omega)]
            rfl
          · simp only [Bool.true_and]
            exact ih (i + 1) _ (by omega)
    have := key l.length 0 0 (by omega)
    simp only [List.drop_zero] at this
    unfold allB netsSum
    exact this
end Pay
end Go.Proofs.Ytljkamjdpjaooaa.G
