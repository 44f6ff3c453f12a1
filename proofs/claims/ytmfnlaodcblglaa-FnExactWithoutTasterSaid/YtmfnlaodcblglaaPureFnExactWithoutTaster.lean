/- FnExactWithoutTaster: the law's body answers true wherever its walk by hand says so: everywhere. No condition. -/
import Derived.Test.YtmfnlaodcblglaaSayFnExactWithoutTaster
namespace Go.Proofs.Ytmfnlaodcblglaa.PureFnExactWithoutTaster
open Go.RowKit Go.Proofs.YtmfnlaodcblglaaW.PrintWords Go.Proofs.Ytmfnlaodcblglaa.G Go.Proofs.Ytmfnlaodcblglaa.SayFnExactWithoutTaster
theorem FnExactWithoutTaster : SayFnExactWithoutTaster.Pure := by
  intro s m _ _ hl hx _
  unfold laws_FnExactWithoutTaster.f
  rw [if_pos]
  exact ⟨hl, List.all_eq_true.2 fun x h => decide_eq_true (hx x h).1⟩
end Go.Proofs.Ytmfnlaodcblglaa.PureFnExactWithoutTaster
