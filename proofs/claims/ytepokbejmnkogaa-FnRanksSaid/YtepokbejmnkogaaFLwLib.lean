/- A word for walks of laws by hand. -/
import Derived.Test.YtepokbejmnkogaaPl
namespace Go.Proofs.Ytepokbejmnkogaa.G
open Go.RowKit Go.Proofs.YtepokbejmnkogaaW.PrintWords Go.Proofs.YtepokbejmnkogaaW.PrintLast Go.Proofs.YtepokbejmnkogaaW.PrintMore
attribute [local go_sem] max2_int min2_int max_two min_two max_three min_three max_four min_four   -- for this text's walks alone
set_option linter.unusedVariables false
set_option linter.unusedSimpArgs false

open Go.Proofs.Ytepokbejmnkogaa.Wk Go.Proofs.Ytepokbejmnkogaa.Pl
namespace LwLib
theorem db {W w' : World} (h : Drawn0 W w') : Below W.heap.size W w' := by
  obtain ⟨n, rfl⟩ := h
  exact pw_below_drewN (Below.refl _ _) n
end LwLib
end Go.Proofs.Ytepokbejmnkogaa.G
