/- FnExactReadMarks: the law's body answers true wherever its walk by hand says so: everywhere. No condition. -/
import Derived.Test.YthkifkfnlmjafaaDoorSayFnExactReadMarks
namespace Go.Proofs.YthkifkfnlmjafaaDoor.PureFnExactReadMarks
open Go.RowKit Go.Proofs.YthkifkfnlmjafaaDoorW.PrintWords Go.Proofs.YthkifkfnlmjafaaDoor.G Go.Proofs.YthkifkfnlmjafaaDoor.SayFnExactReadMarks
theorem FnExactReadMarks : SayFnExactReadMarks.Pure := by
  intro a b _ h
  unfold laws_FnExactReadMarks.f
  rw [if_pos (by omega)]
end Go.Proofs.YthkifkfnlmjafaaDoor.PureFnExactReadMarks
