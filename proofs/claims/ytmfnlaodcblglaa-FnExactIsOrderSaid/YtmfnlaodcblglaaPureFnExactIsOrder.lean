/- FnExactIsOrder: the program's IsOrder answers as the reference's does, for all numbers of samples and all lists that the law lets in. No condition. -/
import Derived.Test.YtmfnlaodcblglaaSayFnExactIsOrder
import Derived.Test.YtmfnlaodcblglaaFHpI64
import Derived.Test.YtmfnlaodcblglaaFOrder
import Derived.Test.YtmfnlaodcblglaaFLibI64
namespace Go.Proofs.Ytmfnlaodcblglaa.PureFnExactIsOrder
open Go.RowKit Go.Proofs.YtmfnlaodcblglaaW.PrintWords Go.Proofs.Ytmfnlaodcblglaa.G Go.Proofs.Ytmfnlaodcblglaa.SayFnExactIsOrder Go.Proofs.Ytmfnlaodcblglaa.Wk Go.Proofs.Ytmfnlaodcblglaa.Pl
set_option linter.unusedSimpArgs false
set_option linter.unusedVariables false

theorem spec_tells (s : Int) (l : List Int) (hl : l.length ≤ 1048576) : spec_IsOrder.f s l = some (inB s 1 8 && (decide ((l.length : Int) = s) && orderB s l)) := by
  unfold spec_IsOrder.f spec_l07Samples.f spec_l07Order.f
  simp only [l00In_tells2, Option.bind_some]
  rw [if_pos (show l.length ≤ 1099511627776 by omega)]
  cases inB s 1 8 <;> rfl
theorem impl_tells (s : Int) (l : List Int) (hl : l.length ≤ 1048576) : impl_IsOrder.f s l = some (inB s 1 8 && (decide ((l.length : Int) = s) && orderB s l)) := by
  unfold impl_IsOrder.f
  rw [if_pos (show l.length ≤ 1099511627776 by omega)]
theorem FnExactIsOrder : SayFnExactIsOrder.Pure := by
  intro s l _ hl _
  refine Ev.rounds (?_ : Ev (fun k => laws_FnExactIsOrder.f k s l) true)
  unfold laws_FnExactIsOrder.f
  by_cases hbig : (l.length : Int) > 1048576
  · simp only [if_pos hbig]
    exact Ev.now _
  · simp only [if_neg hbig]
    repeat (first
      | exact Ev.now _
      | refine Ev.bind (by first | exact ev_of (toInt64S_tells l hl) | exact ev_of (eqInt64S_tells _ (by omega))) ?_
      | simp only [spec_tells s l (by omega), impl_tells s l (by omega), Option.bind_some, if_true, bne_self, if_neg Bool.false_ne_true])
end Go.Proofs.Ytmfnlaodcblglaa.PureFnExactIsOrder
