/- Plain laws on breakage: what both BreakageOf answer. -/
import Derived.Test.YtljkamjdpjaooaaPl
import Derived.Test.YtljkamjdpjaooaaG4
import Derived.Test.YtljkamjdpjaooaaG4
namespace Go.Proofs.Ytljkamjdpjaooaa.G
open Go.RowKit Go.Proofs.YtljkamjdpjaooaaW.PrintWords Go.Proofs.YtljkamjdpjaooaaW.PrintLast Go.Proofs.YtljkamjdpjaooaaW.PrintMore
attribute [local go_sem] max2_int min2_int max_two min_two max_three min_three max_four min_four   -- for this text's walks alone
set_option linter.unusedVariables false
set_option linter.unusedSimpArgs false

open Go.Proofs.Ytljkamjdpjaooaa.Wk Go.Proofs.Ytljkamjdpjaooaa.Pl Go.Proofs.YtljkamjdpjaooaaW.PrintMore
namespace Brk
def step (s : Int × Int) (e : S46) : Int × Int := if e.f3 = 4 then (wrap64 (s.1 + wrap64 (mx e.f4 0)), wrap64 (s.2 + wrap64 (mx e.f4 0))) else if e.f3 = 3 then (s.1, wrap64 (s.2 + wrap64 (mx e.f4 0))) else s
def fin (s : Int × Int) : Int × Int := if s.2 = 0 then (0, 6) else (wrap64 (Int.tdiv (wrap64 (s.1 * 1000)) s.2), 0)
def brk (l : List S46) : Int × Int := if (l.length : Int) > 80 then (0, 3) else fin (l.foldl step (0, 0))
theorem mx_tells (x : Int) (h : -32768 ≤ x ∧ x ≤ 32767) : spec_l00Max.f 0 (wrap64 x) = some (wrap64 (mx x 0)) := by
  unfold spec_l00Max.f mx
  rw [w_id (by omega) (by omega)]
  by_cases hx : 0 > x
  · rw [if_pos hx, if_pos (by omega), w_id (by omega) (by omega)]
  · rw [if_neg hx, if_neg (by omega), w_id (by omega) (by omega)]
theorem spec_tells (l : List S46) (hr : ∀ x ∈ l, -32768 ≤ x.f4 ∧ x.f4 ≤ 32767) : Ev (fun k => spec_BreakageOf.f k l) (brk l) := by
  unfold spec_BreakageOf.f brk
  by_cases h80 : (l.length : Int) > 80
  · simp only [if_pos h80]
    exact Ev.now _
  · simp only [if_neg h80]
    refine ev_fold (F := fun k i (s : Int × Int) => spec_BreakageOf.l0 k l s.1 s.2 i) l z46 step fin (fun i s r hi h => ?_) (fun s => ?_) (0, 0)
    · refine Ev.step (fun k => ?_) h
      have h3 : (i : Int) < (l.length : Int) := by omega
      have hx := hr (l.getD i z46) (by rw [getD_lt hi]; exact List.getElem_mem hi)
      simp only [spec_BreakageOf.l0]
      rw [if_pos h3, if_pos (by omega), w_i (by omega : i < l.length) (by omega)]
      rw [show (rd_T46 l (i : Int)) = l.getD i z46 from rfl, mx_tells _ hx]
      simp only [Option.bind_some, step]
      split
      · rfl
      · split <;> rfl
    · refine Ev.step (fun k => ?_) (Ev.now _)
      simp only [spec_BreakageOf.l0]
      rw [if_neg (by omega)]
      unfold fin
      split <;> rfl
theorem impl_tells (l : List S46) : Ev (fun k => impl_BreakageOf.f k l) (brk l) := by
  unfold impl_BreakageOf.f brk
  by_cases h80 : (l.length : Int) > 80
  · simp only [if_pos h80]
    exact Ev.now _
  · simp only [if_neg h80]
    refine ev_fold (F := fun k i (s : Int × Int) => impl_BreakageOf.l0 k s.1 s.2 l (l.length : Int) i) l z46 step fin (fun i s r hi h => ?_) (fun s => ?_) (0, 0)
    · refine Ev.step (fun k => ?_) h
      have h3 : (i : Int) < (l.length : Int) := by omega
      simp only [impl_BreakageOf.l0]
      rw [if_pos h3, if_pos (by omega), if_pos h3, w_i (by omega : i < l.length) (by omega)]
      rw [show (rd_T46 l (i : Int)) = l.getD i z46 from rfl]
      simp only [step]
      split
      · rfl
      · split <;> rfl
    · refine Ev.step (fun k => ?_) (Ev.now _)
      simp only [impl_BreakageOf.l0]
      rw [if_neg (by omega)]
      unfold fin
      split <;> rfl
end Brk
end Go.Proofs.Ytljkamjdpjaooaa.G
