/- FnExactRankSums: the law's body answers true wherever its walk by hand says so: everywhere. No condition. -/
import Derived.Test.YtmfnlaodcblglaaSayFnExactRankSums
namespace Go.Proofs.Ytmfnlaodcblglaa.PureFnExactRankSums
open Go.RowKit Go.Proofs.YtmfnlaodcblglaaW.PrintWords Go.Proofs.Ytmfnlaodcblglaa.G Go.Proofs.Ytmfnlaodcblglaa.SayFnExactRankSums
theorem FnExactRankSums : SayFnExactRankSums.Pure := by
  intro s m _ hl hx
  unfold laws_FnExactRankSums.f
  rw [if_pos]
  exact ⟨hl, List.all_eq_true.2 fun x h => decide_eq_true (hx x h).1⟩
end Go.Proofs.Ytmfnlaodcblglaa.PureFnExactRankSums
