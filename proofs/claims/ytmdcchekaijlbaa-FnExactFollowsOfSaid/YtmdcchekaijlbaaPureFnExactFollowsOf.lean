/- FnExactFollowsOf: the law's body answers true wherever its walk by hand says so: everywhere. No condition. -/
import Derived.Test.YtmdcchekaijlbaaSayFnExactFollowsOf
namespace Go.Proofs.Ytmdcchekaijlbaa.PureFnExactFollowsOf
open Go.RowKit Go.Proofs.YtmdcchekaijlbaaW.PrintWords Go.Proofs.Ytmdcchekaijlbaa.G Go.Proofs.Ytmdcchekaijlbaa.SayFnExactFollowsOf
theorem FnExactFollowsOf : SayFnExactFollowsOf.Pure := by
  intro s m _ hl hx
  unfold laws_FnExactFollowsOf.f
  rw [if_pos]
  exact ⟨hl, List.all_eq_true.2 fun x h => decide_eq_true (hx x h).1⟩
end Go.Proofs.Ytmdcchekaijlbaa.PureFnExactFollowsOf
