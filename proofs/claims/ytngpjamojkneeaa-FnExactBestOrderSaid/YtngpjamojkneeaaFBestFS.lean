/- spec.l07Best's contract. -/
import Derived.Test.YtngpjamojkneeaaFBestS
import Derived.Test.YtngpjamojkneeaaFBestAh
namespace Go.Proofs.Ytngpjamojkneeaa.G
open Go.RowKit Go.Proofs.YtngpjamojkneeaaW.PrintWords Go.Proofs.YtngpjamojkneeaaW.PrintLast Go.Proofs.YtngpjamojkneeaaW.PrintMore
attribute [local go_sem] max2_int min2_int max_two min_two max_three min_three max_four min_four   -- for this text's walks alone
set_option linter.unusedVariables false
set_option linter.unusedSimpArgs false

open Go.Proofs.Ytngpjamojkneeaa.Wk Go.Proofs.Ytngpjamojkneeaa.Pl Go.Proofs.Ytngpjamojkneeaa.Best
def spec_l07Best.f (a0 : Int) (l1 : List (List Int)) : Option (List Int × Int) := if marksB a0 l1 = true then bestOS (pairsL a0.toNat l1) a0.toNat else none
theorem spec_l07Best.calls (a0 : Int) (A1 : Option Addr) (c1 : Nat) (l1 : List (List Int)) (r1 : List Int) (r2 : Int) (w : World) (hr1 : Kd.C (Kd.slice 2 (Kd.int .i64)) w A1 l1.length l1) (hc1 : l1.length ≤ c1) (h : spec_l07Best.f a0 l1 = some (r1, r2)) :
    Calls Try.prog 30 #[.int .i64 a0, .slice A1 l1.length c1] w fun e w' => ∃ v1_ : Value, e = .returned (.tuple #[v1_, .int .i64 r2]) ∧ Kd.R (Kd.int .i64) 2 w' w.heap.size (fun _ => True) v1_ r1 ∧ Below w.heap.size w w' := by
  unfold spec_l07Best.f at h
  by_cases hb : marksB a0 l1 = true
  case neg => rw [if_neg hb] at h; exact absurd h (by simp)
  rw [if_pos hb] at h
  obtain ⟨q, rfl, h1, h2, h3, h4⟩ := marksB_says hb
  rw [Int.toNat_natCast] at h
  obtain ⟨k, hk⟩ := (spec_pairs_tells q l1 h2 h3 h4).rounds
  exact bestS q h1 h2 A1 c1 l1 (pairsL q l1) k 9 r1 r2 w hr1 hc1 hk (pairsL_sq q l1) (Best.ahead_tells (pairsL_sq q l1) h2) h
end Go.Proofs.Ytngpjamojkneeaa.G
