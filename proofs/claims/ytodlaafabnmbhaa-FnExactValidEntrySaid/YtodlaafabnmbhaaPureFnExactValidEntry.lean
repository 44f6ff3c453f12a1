/- FnExactValidEntry: the program's ValidEntry answers as the reference's does, for all numbers of parties and all entries. No condition. -/
import Derived.Test.YtodlaafabnmbhaaSayFnExactValidEntry
import Derived.Test.YtodlaafabnmbhaaFLibEntry
namespace Go.Proofs.Ytodlaafabnmbhaa.PureFnExactValidEntry
open Go.RowKit Go.Proofs.Ytodlaafabnmbhaa.G Go.Proofs.Ytodlaafabnmbhaa.SayFnExactValidEntry Go.Proofs.Ytodlaafabnmbhaa.Wk Go.Proofs.Ytodlaafabnmbhaa.Pl
theorem FnExactValidEntry : SayFnExactValidEntry.Pure := by
  intro p d f t wh n _ _ _ _ _ _
  unfold laws_FnExactValidEntry.f laws_toEntry.f spec_ValidEntry.f
  simp only [Option.bind_some, validEntry_tells, bne_self]
  rfl
end Go.Proofs.Ytodlaafabnmbhaa.PureFnExactValidEntry
