/- FnExactBreakageOf: the program's BreakageOf answers as the reference's does, for all ledgers that the law lets in. No condition. -/
import Derived.Test.YtodlaafabnmbhaaSayFnExactBreakageOf
import Derived.Test.YtodlaafabnmbhaaFHpEntry
import Derived.Test.YtodlaafabnmbhaaFLibEntry
namespace Go.Proofs.Ytodlaafabnmbhaa.PureFnExactBreakageOf
open Go.RowKit Go.Proofs.YtodlaafabnmbhaaW.PrintWords Go.Proofs.YtodlaafabnmbhaaW.PrintMore Go.Proofs.Ytodlaafabnmbhaa.G Go.Proofs.Ytodlaafabnmbhaa.SayFnExactBreakageOf Go.Proofs.Ytodlaafabnmbhaa.Wk Go.Proofs.Ytodlaafabnmbhaa.Pl
set_option linter.unusedSimpArgs false
set_option linter.unusedVariables false

def step (s : Int × Int) (e : S33) : Int × Int := if e.f3 = 4 then (wrap64 (s.1 + wrap64 (mx e.f4 0)), wrap64 (s.2 + wrap64 (mx e.f4 0))) else if e.f3 = 3 then (s.1, wrap64 (s.2 + wrap64 (mx e.f4 0))) else s
def fin (s : Int × Int) : Int × Int := if s.2 = 0 then (0, 6) else (wrap64 (Int.tdiv (wrap64 (s.1 * 1000)) s.2), 0)
def brk (l : List S33) : Int × Int := if (l.length : Int) > 80 then (0, 3) else fin (l.foldl step (0, 0))
theorem mx_tells (x : Int) (h : -32768 ≤ x ∧ x ≤ 32767) : spec_l00Max.f 0 (wrap64 x) = some (wrap64 (mx x 0)) := by
  unfold spec_l00Max.f mx
  rw [w_id (by omega) (by omega)]
  by_cases hx : 0 > x
  · rw [if_pos hx, if_pos (by omega), w_id (by omega) (by omega)]
  · rw [if_neg hx, if_neg (by omega), w_id (by omega) (by omega)]
theorem spec_tells (l : List S33) (hr : ∀ x ∈ l, -32768 ≤ x.f4 ∧ x.f4 ≤ 32767) : Ev (fun k => spec_BreakageOf.f k l) (brk l) := by
  unfold spec_BreakageOf.f brk
  by_cases h80 : (l.length : Int) > 80
  · simp only [if_pos h80]
    exact Ev.now _
  · simp only [if_neg h80]
    refine ev_fold (F := fun k i (s : Int × Int) => spec_BreakageOf.l0 k l s.1 s.2 i) l z33 step fin (fun i s r hi h => ?_) (fun s => ?_) (0, 0)
    · refine Ev.step (fun k => ?_) h
      have h3 : (i : Int) < (l.length : Int) := by omega
      have hx := hr (l.getD i z33) (by rw [getD_lt hi]; exact List.getElem_mem hi)
      simp only [spec_BreakageOf.l0]
      rw [if_pos h3, if_pos (by omega), w_i (by omega : i < l.length) (by omega)]
      rw [show (rd_T33 l (i : Int)) = l.getD i z33 from rfl, mx_tells _ hx]
      simp only [Option.bind_some, step]
      split
      · rfl
      · split <;> rfl
    · refine Ev.step (fun k => ?_) (Ev.now _)
      simp only [spec_BreakageOf.l0]
      rw [if_neg (by omega)]
      unfold fin
      split <;> rfl
theorem impl_tells (l : List S33) : Ev (fun k => impl_BreakageOf.f k l) (brk l) := by
  unfold impl_BreakageOf.f brk
  by_cases h80 : (l.length : Int) > 80
  · simp only [if_pos h80]
    exact Ev.now _
  · simp only [if_neg h80]
    refine ev_fold (F := fun k i (s : Int × Int) => impl_BreakageOf.l0 k s.1 s.2 l (l.length : Int) i) l z33 step fin (fun i s r hi h => ?_) (fun s => ?_) (0, 0)
    · refine Ev.step (fun k => ?_) h
      have h3 : (i : Int) < (l.length : Int) := by omega
      simp only [impl_BreakageOf.l0]
      rw [if_pos h3, if_pos (by omega), if_pos h3, w_i (by omega : i < l.length) (by omega)]
      rw [show (rd_T33 l (i : Int)) = l.getD i z33 from rfl]
      simp only [step]
      split
      · rfl
      · split <;> rfl
    · refine Ev.step (fun k => ?_) (Ev.now _)
      simp only [impl_BreakageOf.l0]
      rw [if_neg (by omega)]
      unfold fin
      split <;> rfl
theorem FnExactBreakageOf : SayFnExactBreakageOf.Pure := by
  intro l hl hok
  refine Ev.rounds (?_ : Ev (fun k => laws_FnExactBreakageOf.f k l) true)
  unfold laws_FnExactBreakageOf.f
  simp only [szEntryS_tells l hl 1048576 (by omega) (by omega), Option.bind_some]
  by_cases hbig : (1048576 : Int) < l.length
  · simp only [if_pos hbig]
    exact Ev.now _
  · simp only [if_neg hbig, if_neg (show ¬ ((1048576 : Int) - l.length < 0) by omega)]
    have hr : ∀ x ∈ l.map cEntry, -32768 ≤ x.f4 ∧ x.f4 ≤ 32767 := by
      intro x hx
      obtain ⟨y, hy, rfl⟩ := List.mem_map.1 hx
      exact (hok y hy).2.2.2.2
    repeat (first
      | exact Ev.now _
      | refine Ev.bind (by first | exact ev_of (toEntryS_tells l hl) | exact spec_tells _ hr | exact impl_tells _ | exact ev_of (eqEntryS_tells _ (by simp; omega))) ?_
      | simp only [if_true, bne_self, if_neg Bool.false_ne_true]
      | refine Ev.step (fun k => laws_FnExactBreakageOf.j0.eq_2 ..) ?_)
end Go.Proofs.Ytodlaafabnmbhaa.PureFnExactBreakageOf
