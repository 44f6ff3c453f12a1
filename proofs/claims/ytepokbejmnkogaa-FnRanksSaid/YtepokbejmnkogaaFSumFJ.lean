/- impl.SumOrder's contract, without rounds. -/
import Derived.Test.YtepokbejmnkogaaFSumFI
import Derived.Test.YtepokbejmnkogaaFLibRanks
import Derived.Test.YtepokbejmnkogaaPl
namespace Go.Proofs.Ytepokbejmnkogaa.G
open Go.RowKit Go.Proofs.YtepokbejmnkogaaW.PrintWords Go.Proofs.YtepokbejmnkogaaW.PrintLast Go.Proofs.YtepokbejmnkogaaW.PrintMore
attribute [local go_sem] max2_int min2_int max_two min_two max_three min_three max_four min_four   -- for this text's walks alone
set_option linter.unusedVariables false
set_option linter.unusedSimpArgs false

open Go.Proofs.Ytepokbejmnkogaa.Wk Go.Proofs.Ytepokbejmnkogaa.Pl
def impl_SumOrder.f (a0 : Int) (l1 : List (List Int)) : Option (List Int × Int) := if marksB a0 l1 = true then some (Sum.insI (sumsL a0.toNat l1) (SumW.iota a0.toNat) (a0.toNat - 1), 0) else some ([], 1)
theorem impl_SumOrder.calls (a0 : Int) (A1 : Option Addr) (c1 : Nat) (l1 : List (List Int)) (r1 : List Int) (r2 : Int) (w : World) (hr1 : Kd.C (Kd.slice 2 (Kd.int .i64)) w A1 l1.length l1) (hc1 : l1.length ≤ c1) (h : impl_SumOrder.f a0 l1 = some (r1, r2)) :
    Calls Try.prog 23 #[.int .i64 a0, .slice A1 l1.length c1] w fun e w' => ∃ v0_ : Value, e = .returned (.tuple #[v0_, .int .i64 r2]) ∧ Kd.R (Kd.int .i64) 2 w' w.heap.size (fun _ => True) v0_ r1 ∧ Below w.heap.size w w' := by
  unfold impl_SumOrder.f at h
  have he : ∃ k, impl_SumOrderK.f k a0 l1 = some (r1, r2) := by
    rw [← h]
    by_cases hb : marksB a0 l1 = true
    · rw [if_pos hb]
      obtain ⟨q, rfl, h1, h2, h3, h4⟩ := marksB_rows hb
      obtain ⟨k, hk⟩ := (impl_sums_tells q l1 h2 h3 h4).rounds
      refine ⟨k, ?_⟩
      unfold impl_SumOrderK.f impl_ValidMarks.f
      rw [Option.bind_some, if_pos hb, hk, Option.bind_some, Int.toNat_natCast, if_pos ⟨by omega, by omega, sumsL_len q l1⟩]
    · rw [if_neg hb]
      refine ⟨0, ?_⟩
      unfold impl_SumOrderK.f impl_ValidMarks.f
      rw [Option.bind_some, if_neg hb]
  obtain ⟨k, hk⟩ := he
  exact impl_SumOrderK.calls k a0 A1 c1 l1 r1 r2 w hr1 hc1 hk
end Go.Proofs.Ytepokbejmnkogaa.G
