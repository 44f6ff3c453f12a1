-- Written by wip/tools/xprint.py out of the translation. Lean checks it.
import Derived.Test.YtljkamjdpjaooaaG0
import Derived.Test.YtljkamjdpjaooaaFChkPay
import Derived.Test.YtljkamjdpjaooaaFFewest
import Derived.Test.YtljkamjdpjaooaaG3
import Derived.Test.YtljkamjdpjaooaaG4
namespace Go.Proofs.Ytljkamjdpjaooaa.G
open Go.RowKit Go.Proofs.YtljkamjdpjaooaaW.PrintWords Go.Proofs.YtljkamjdpjaooaaW.PrintLast Go.Proofs.YtljkamjdpjaooaaW.PrintMore
attribute [local go_sem] max2_int min2_int max_two min_two max_three min_three max_four min_four   -- for this text's walks alone
set_option linter.unusedVariables false
set_option linter.unusedSimpArgs false

/-! ### laws_FnPayments: function 4 -/
mutual
def laws_FnPayments.j0 : Nat → List Int → List Int → List (S39) → Bool → Option (Bool)
  | 0, _, _, _, _ => none
  | k + 1, x1, x5, x8, x67 => if x67 = true then (some false) else (laws_FnPayments.l0 k x1 x5 x8 0 0)
def laws_FnPayments.l0 : Nat → List Int → List Int → List (S39) → Int → Int → Option (Bool)
  | 0, _, _, _, _, _ => none
  | k + 1, x1, x5, x8, x12, x13 => if x13 < (x5.length : Int) then (if 0 ≤ x13 then (if (rd x5 x13) = 0 then (laws_FnPayments.l0 k x1 x5 x8 x12 (wrap64 (x13 + 1))) else (laws_FnPayments.l0 k x1 x5 x8 (wrap64 (x12 + 1)) (wrap64 (x13 + 1)))) else (none)) else (if (x8.length : Int) > (mx 0 (wrap64 (x12 - 1))) then (laws_FnPayments.j2 k x1 x5 x8 true) else (laws_FnPayments.j2 k x1 x5 x8 (decide ((wrap64 (2 * (x8.length : Int))) < x12))))
def laws_FnPayments.j2 : Nat → List Int → List Int → List (S39) → Bool → Option (Bool)
  | 0, _, _, _, _ => none
  | k + 1, x1, x5, x8, x93 => if x93 = true then (some false) else (laws_FnPayments.l1 k x1 x5 x8 0)
def laws_FnPayments.l1 : Nat → List Int → List Int → List (S39) → Int → Option (Bool)
  | 0, _, _, _, _ => none
  | k + 1, x1, x5, x8, x14 => if x14 < (x8.length : Int) then ((some (([] : List (S39)) : List (S39))).bind fun y303 => (if 0 ≤ x14 then (if x14 ≤ (x8.length : Int) then ((some (x8.take (x14 : Int).toNat : List (S39))).bind fun y306 => (if y303.length + y306.length < 8796093022208 then ((some (y303 ++ y306 : List (S39))).bind fun y310 => (if 0 ≤ (wrap64 (x14 + 1)) then (if (wrap64 (x14 + 1)) ≤ (x8.length : Int) then ((some (x8.drop ((wrap64 (x14 + 1)) : Int).toNat : List (S39))).bind fun y313 => (if y310.length + y313.length < 8796093022208 then ((impl_CheckPayments.f x5 (y310 ++ y313)).bind fun bt320 => (if bt320.2 = 0 then (if bt320.1 = true then (some false) else (if ((rd_T39 x8 x14).f2) < 1 then (some false) else (if 0 ≤ ((rd_T39 x8 x14).f0) then (if ((rd_T39 x8 x14).f0) < (x5.length : Int) then (if (rd x5 ((rd_T39 x8 x14).f0)) ≥ 0 then (some false) else (if 0 ≤ ((rd_T39 x8 x14).f1) then (if ((rd_T39 x8 x14).f1) < (x5.length : Int) then (if (rd x5 ((rd_T39 x8 x14).f1)) ≤ 0 then (some false) else (laws_FnPayments.l1 k x1 x5 x8 (wrap64 (x14 + 1)))) else (none)) else (none))) else (none)) else (none)))) else (some false))) else (none))) else (none)) else (none))) else (none))) else (none)) else (none))) else ((spec_A2Ledger.f k x1).bind fun t327 => ((impl_BreakageOf.f k t327).bind fun bt330 => ((spec_BreakageOf.f k t327).bind fun bt332 => (laws_FnPayments.l2 k t327 bt330.1 bt330.2 bt332.1 bt332.2 0 0 0))))
def laws_FnPayments.l2 : Nat → List (S46) → Int → Int → Int → Int → Int → Int → Int → Option (Bool)
  | 0, _, _, _, _, _, _, _, _ => none
  | k + 1, x18, x19, x20, x21, x22, x23, x24, x25 => if x25 < (x18.length : Int) then (if 0 ≤ x25 then (if ((rd_T46 x18 x25).f3) = 4 then (if ((rd_T46 x18 x25).f3) = 3 then (laws_FnPayments.l2 k x18 x19 x20 x21 x22 (wrap64 (x23 + (wrap64 ((rd_T46 x18 x25).f4)))) (wrap64 (x24 + (wrap64 ((rd_T46 x18 x25).f4)))) (wrap64 (x25 + 1))) else (laws_FnPayments.l2 k x18 x19 x20 x21 x22 (wrap64 (x23 + (wrap64 ((rd_T46 x18 x25).f4)))) x24 (wrap64 (x25 + 1)))) else (if ((rd_T46 x18 x25).f3) = 3 then (laws_FnPayments.l2 k x18 x19 x20 x21 x22 x23 (wrap64 (x24 + (wrap64 ((rd_T46 x18 x25).f4)))) (wrap64 (x25 + 1))) else (laws_FnPayments.l2 k x18 x19 x20 x21 x22 x23 x24 (wrap64 (x25 + 1))))) else (none)) else (if x20 = x22 then (if x19 = x21 then (laws_FnPayments.j5 k x20 x21 x23 x24 ((x20 == 0) != (decide ((wrap64 (x23 + x24)) > 0)))) else (laws_FnPayments.j5 k x20 x21 x23 x24 true)) else (laws_FnPayments.j5 k x20 x21 x23 x24 true))
def laws_FnPayments.j5 : Nat → Int → Int → Int → Int → Bool → Option (Bool)
  | 0, _, _, _, _, _ => none
  | k + 1, x20, x21, x23, x24, x213 => if x213 = true then (some false) else (if x20 = 0 then (if (wrap64 (x21 * (wrap64 (x23 + x24)))) ≤ (wrap64 (1000 * x23)) then (some (decide ((wrap64 ((wrap64 (x21 + 1)) * (wrap64 (x23 + x24)))) > (wrap64 (1000 * x23))))) else (some false)) else (some (x20 == 6)))
end
def laws_FnPayments.f (k : Nat) (l0 : List Int) (l1 : List Int) : Option (Bool) := (laws_a2Long.f l0 l1).bind fun t287 => (if t287 = true then (some true) else ((spec_A2Nets.f k l0).bind fun t288 => ((impl_FewestPayments.f k t288).bind fun bt291 => ((spec_FewestPayments.f k t288).bind fun bt295 => ((impl_CheckPayments.f t288 bt295.1).bind fun bt299 => (if bt291.2 = bt295.2 then (if bt291.2 = 0 then ((spec_A2SamePayments.f k bt291.1 bt295.1).bind fun t301 => (if t301 = true then (if bt299.2 = 0 then (laws_FnPayments.j0 k l1 t288 bt295.1 (!bt299.1)) else (laws_FnPayments.j0 k l1 t288 bt295.1 true)) else (laws_FnPayments.j0 k l1 t288 bt295.1 true))) else (laws_FnPayments.j0 k l1 t288 bt295.1 true)) else (laws_FnPayments.j0 k l1 t288 bt295.1 true)))))))
theorem laws_FnPayments.mono_l : ∀ k, (∀ y0 y1 y2 y3, LeO (laws_FnPayments.j0 k y0 y1 y2 y3) (laws_FnPayments.j0 (k + 1) y0 y1 y2 y3)) ∧ (∀ y0 y1 y2 y3 y4, LeO (laws_FnPayments.l0 k y0 y1 y2 y3 y4) (laws_FnPayments.l0 (k + 1) y0 y1 y2 y3 y4)) ∧ (∀ y0 y1 y2 y3, LeO (laws_FnPayments.j2 k y0 y1 y2 y3) (laws_FnPayments.j2 (k + 1) y0 y1 y2 y3)) ∧ (∀ y0 y1 y2 y3, LeO (laws_FnPayments.l1 k y0 y1 y2 y3) (laws_FnPayments.l1 (k + 1) y0 y1 y2 y3)) ∧ (∀ y0 y1 y2 y3 y4 y5 y6 y7, LeO (laws_FnPayments.l2 k y0 y1 y2 y3 y4 y5 y6 y7) (laws_FnPayments.l2 (k + 1) y0 y1 y2 y3 y4 y5 y6 y7)) ∧ (∀ y0 y1 y2 y3 y4, LeO (laws_FnPayments.j5 k y0 y1 y2 y3 y4) (laws_FnPayments.j5 (k + 1) y0 y1 y2 y3 y4))
  | 0 => ⟨fun _ _ _ _ r h => by simp [laws_FnPayments.j0] at h, fun _ _ _ _ _ r h => by simp [laws_FnPayments.l0] at h, fun _ _ _ _ r h => by simp [laws_FnPayments.j2] at h, fun _ _ _ _ r h => by simp [laws_FnPayments.l1] at h, fun _ _ _ _ _ _ _ _ r h => by simp [laws_FnPayments.l2] at h, fun _ _ _ _ _ r h => by simp [laws_FnPayments.j5] at h⟩
  | k + 1 => by
    obtain ⟨ih0, ih1, ih2, ih3, ih4, ih5⟩ := laws_FnPayments.mono_l k
    refine ⟨?_, ?_, ?_, ?_, ?_, ?_⟩
    · intro y0 y1 y2 y3
      unfold laws_FnPayments.j0
      repeat' first
      | (with_reducible exact ih0 _ _ _ _)
      | (with_reducible exact ih1 _ _ _ _ _)
      | (with_reducible exact ih2 _ _ _ _)
      | (with_reducible exact ih3 _ _ _ _)
      | (with_reducible exact ih4 _ _ _ _ _ _ _ _)
      | (with_reducible exact ih5 _ _ _ _ _)
      | (with_reducible exact impl_BreakageOf.mono _ _)
      | (with_reducible exact impl_FewestPayments.mono _ _)
      | (with_reducible exact spec_A2Ledger.mono _ _)
      | (with_reducible exact spec_A2Nets.mono _ _)
      | (with_reducible exact spec_A2SamePayments.mono _ _ _)
      | (with_reducible exact spec_BreakageOf.mono _ _)
      | (with_reducible exact spec_FewestPayments.mono _ _)
      | (with_reducible exact LeO.refl _)
      | (with_reducible exact LeO.none _)
      | (with_reducible refine LeO.ite ?_ ?_)
      | (with_reducible refine LeO.bind ?_ (fun _ => ?_))
      | exact ih0 _ _ _ _
      | exact ih1 _ _ _ _ _
      | exact ih2 _ _ _ _
      | exact ih3 _ _ _ _
      | exact ih4 _ _ _ _ _ _ _ _
      | exact ih5 _ _ _ _ _
      | exact impl_BreakageOf.mono _ _
      | exact impl_FewestPayments.mono _ _
      | exact spec_A2Ledger.mono _ _
      | exact spec_A2Nets.mono _ _
      | exact spec_A2SamePayments.mono _ _ _
      | exact spec_BreakageOf.mono _ _
      | exact spec_FewestPayments.mono _ _
      | exact LeO.none _
      | refine LeO.ite ?_ ?_
      | refine LeO.bind ?_ (fun _ => ?_)
    · intro y0 y1 y2 y3 y4
      unfold laws_FnPayments.l0
      repeat' first
      | (with_reducible exact ih0 _ _ _ _)
      | (with_reducible exact ih1 _ _ _ _ _)
      | (with_reducible exact ih2 _ _ _ _)
      | (with_reducible exact ih3 _ _ _ _)
      | (with_reducible exact ih4 _ _ _ _ _ _ _ _)
      | (with_reducible exact ih5 _ _ _ _ _)
      | (with_reducible exact impl_BreakageOf.mono _ _)
      | (with_reducible exact impl_FewestPayments.mono _ _)
      | (with_reducible exact spec_A2Ledger.mono _ _)
      | (with_reducible exact spec_A2Nets.mono _ _)
      | (with_reducible exact spec_A2SamePayments.mono _ _ _)
      | (with_reducible exact spec_BreakageOf.mono _ _)
      | (with_reducible exact spec_FewestPayments.mono _ _)
      | (with_reducible exact LeO.refl _)
      | (with_reducible exact LeO.none _)
      | (with_reducible refine LeO.ite ?_ ?_)
      | (with_reducible refine LeO.bind ?_ (fun _ => ?_))
      | exact ih0 _ _ _ _
      | exact ih1 _ _ _ _ _
      | exact ih2 _ _ _ _
      | exact ih3 _ _ _ _
      | exact ih4 _ _ _ _ _ _ _ _
      | exact ih5 _ _ _ _ _
      | exact impl_BreakageOf.mono _ _
      | exact impl_FewestPayments.mono _ _
      | exact spec_A2Ledger.mono _ _
      | exact spec_A2Nets.mono _ _
      | exact spec_A2SamePayments.mono _ _ _
      | exact spec_BreakageOf.mono _ _
      | exact spec_FewestPayments.mono _ _
      | exact LeO.none _
      | refine LeO.ite ?_ ?_
      | refine LeO.bind ?_ (fun _ => ?_)
    · intro y0 y1 y2 y3
      unfold laws_FnPayments.j2
      repeat' first
      | (with_reducible exact ih0 _ _ _ _)
      | (with_reducible exact ih1 _ _ _ _ _)
      | (with_reducible exact ih2 _ _ _ _)
      | (with_reducible exact ih3 _ _ _ _)
      | (with_reducible exact ih4 _ _ _ _ _ _ _ _)
      | (with_reducible exact ih5 _ _ _ _ _)
      | (with_reducible exact impl_BreakageOf.mono _ _)
      | (with_reducible exact impl_FewestPayments.mono _ _)
      | (with_reducible exact spec_A2Ledger.mono _ _)
      | (with_reducible exact spec_A2Nets.mono _ _)
      | (with_reducible exact spec_A2SamePayments.mono _ _ _)
      | (with_reducible exact spec_BreakageOf.mono _ _)
      | (with_reducible exact spec_FewestPayments.mono _ _)
      | (with_reducible exact LeO.refl _)
      | (with_reducible exact LeO.none _)
      | (with_reducible refine LeO.ite ?_ ?_)
      | (with_reducible refine LeO.bind ?_ (fun _ => ?_))
      | exact ih0 _ _ _ _
      | exact ih1 _ _ _ _ _
      | exact ih2 _ _ _ _
      | exact ih3 _ _ _ _
      | exact ih4 _ _ _ _ _ _ _ _
      | exact ih5 _ _ _ _ _
      | exact impl_BreakageOf.mono _ _
      | exact impl_FewestPayments.mono _ _
      | exact spec_A2Ledger.mono _ _
      | exact spec_A2Nets.mono _ _
      | exact spec_A2SamePayments.mono _ _ _
      | exact spec_BreakageOf.mono _ _
      | exact spec_FewestPayments.mono _ _
      | exact LeO.none _
      | refine LeO.ite ?_ ?_
      | refine LeO.bind ?_ (fun _ => ?_)
    · intro y0 y1 y2 y3
      unfold laws_FnPayments.l1
      repeat' first
      | (with_reducible exact ih0 _ _ _ _)
      | (with_reducible exact ih1 _ _ _ _ _)
      | (with_reducible exact ih2 _ _ _ _)
      | (with_reducible exact ih3 _ _ _ _)
      | (with_reducible exact ih4 _ _ _ _ _ _ _ _)
      | (with_reducible exact ih5 _ _ _ _ _)
      | (with_reducible exact impl_BreakageOf.mono _ _)
      | (with_reducible exact impl_FewestPayments.mono _ _)
      | (with_reducible exact spec_A2Ledger.mono _ _)
      | (with_reducible exact spec_A2Nets.mono _ _)
      | (with_reducible exact spec_A2SamePayments.mono _ _ _)
      | (with_reducible exact spec_BreakageOf.mono _ _)
      | (with_reducible exact spec_FewestPayments.mono _ _)
      | (with_reducible exact LeO.refl _)
      | (with_reducible exact LeO.none _)
      | (with_reducible refine LeO.ite ?_ ?_)
      | (with_reducible refine LeO.bind ?_ (fun _ => ?_))
      | exact ih0 _ _ _ _
      | exact ih1 _ _ _ _ _
      | exact ih2 _ _ _ _
      | exact ih3 _ _ _ _
      | exact ih4 _ _ _ _ _ _ _ _
      | exact ih5 _ _ _ _ _
      | exact impl_BreakageOf.mono _ _
      | exact impl_FewestPayments.mono _ _
      | exact spec_A2Ledger.mono _ _
      | exact spec_A2Nets.mono _ _
      | exact spec_A2SamePayments.mono _ _ _
      | exact spec_BreakageOf.mono _ _
      | exact spec_FewestPayments.mono _ _
      | exact LeO.none _
      | refine LeO.ite ?_ ?_
      | refine LeO.bind ?_ (fun _ => ?_)
    · intro y0 y1 y2 y3 y4 y5 y6 y7
      unfold laws_FnPayments.l2
      repeat' first
      | (with_reducible exact ih0 _ _ _ _)
      | (with_reducible exact ih1 _ _ _ _ _)
      | (with_reducible exact ih2 _ _ _ _)
      | (with_reducible exact ih3 _ _ _ _)
      | (with_reducible exact ih4 _ _ _ _ _ _ _ _)
      | (with_reducible exact ih5 _ _ _ _ _)
      | (with_reducible exact impl_BreakageOf.mono _ _)
      | (with_reducible exact impl_FewestPayments.mono _ _)
      | (with_reducible exact spec_A2Ledger.mono _ _)
      | (with_reducible exact spec_A2Nets.mono _ _)
      | (with_reducible exact spec_A2SamePayments.mono _ _ _)
      | (with_reducible exact spec_BreakageOf.mono _ _)
      | (with_reducible exact spec_FewestPayments.mono _ _)
      | (with_reducible exact LeO.refl _)
      | (with_reducible exact LeO.none _)
      | (with_reducible refine LeO.ite ?_ ?_)
      | (with_reducible refine LeO.bind ?_ (fun _ => ?_))
      | exact ih0 _ _ _ _
      | exact ih1 _ _ _ _ _
      | exact ih2 _ _ _ _
      | exact ih3 _ _ _ _
      | exact ih4 _ _ _ _ _ _ _ _
      | exact ih5 _ _ _ _ _
      | exact impl_BreakageOf.mono _ _
      | exact impl_FewestPayments.mono _ _
      | exact spec_A2Ledger.mono _ _
      | exact spec_A2Nets.mono _ _
      | exact spec_A2SamePayments.mono _ _ _
      | exact spec_BreakageOf.mono _ _
      | exact spec_FewestPayments.mono _ _
      | exact LeO.none _
      | refine LeO.ite ?_ ?_
      | refine LeO.bind ?_ (fun _ => ?_)
    · intro y0 y1 y2 y3 y4
      unfold laws_FnPayments.j5
      repeat' first
      | (with_reducible exact ih0 _ _ _ _)
      | (with_reducible exact ih1 _ _ _ _ _)
      | (with_reducible exact ih2 _ _ _ _)
      | (with_reducible exact ih3 _ _ _ _)
      | (with_reducible exact ih4 _ _ _ _ _ _ _ _)
      | (with_reducible exact ih5 _ _ _ _ _)
      | (with_reducible exact impl_BreakageOf.mono _ _)
      | (with_reducible exact impl_FewestPayments.mono _ _)
      | (with_reducible exact spec_A2Ledger.mono _ _)
      | (with_reducible exact spec_A2Nets.mono _ _)
      | (with_reducible exact spec_A2SamePayments.mono _ _ _)
      | (with_reducible exact spec_BreakageOf.mono _ _)
      | (with_reducible exact spec_FewestPayments.mono _ _)
      | (with_reducible exact LeO.refl _)
      | (with_reducible exact LeO.none _)
      | (with_reducible refine LeO.ite ?_ ?_)
      | (with_reducible refine LeO.bind ?_ (fun _ => ?_))
      | exact ih0 _ _ _ _
      | exact ih1 _ _ _ _ _
      | exact ih2 _ _ _ _
      | exact ih3 _ _ _ _
      | exact ih4 _ _ _ _ _ _ _ _
      | exact ih5 _ _ _ _ _
      | exact impl_BreakageOf.mono _ _
      | exact impl_FewestPayments.mono _ _
      | exact spec_A2Ledger.mono _ _
      | exact spec_A2Nets.mono _ _
      | exact spec_A2SamePayments.mono _ _ _
      | exact spec_BreakageOf.mono _ _
      | exact spec_FewestPayments.mono _ _
      | exact LeO.none _
      | refine LeO.ite ?_ ?_
      | refine LeO.bind ?_ (fun _ => ?_)
theorem laws_FnPayments.mono : ∀ a0 a1 k, LeO (laws_FnPayments.f k a0 a1) (laws_FnPayments.f (k + 1) a0 a1) := by
  intro a0 a1 k
  obtain ⟨ih0, ih1, ih2, ih3, ih4, ih5⟩ := laws_FnPayments.mono_l k
  unfold laws_FnPayments.f
  repeat' first
      | (with_reducible exact ih0 _ _ _ _)
      | (with_reducible exact ih1 _ _ _ _ _)
      | (with_reducible exact ih2 _ _ _ _)
      | (with_reducible exact ih3 _ _ _ _)
      | (with_reducible exact ih4 _ _ _ _ _ _ _ _)
      | (with_reducible exact ih5 _ _ _ _ _)
      | (with_reducible exact impl_BreakageOf.mono _ _)
      | (with_reducible exact impl_FewestPayments.mono _ _)
      | (with_reducible exact spec_A2Ledger.mono _ _)
      | (with_reducible exact spec_A2Nets.mono _ _)
      | (with_reducible exact spec_A2SamePayments.mono _ _ _)
      | (with_reducible exact spec_BreakageOf.mono _ _)
      | (with_reducible exact spec_FewestPayments.mono _ _)
      | (with_reducible exact LeO.refl _)
      | (with_reducible exact LeO.none _)
      | (with_reducible refine LeO.ite ?_ ?_)
      | (with_reducible refine LeO.bind ?_ (fun _ => ?_))
      | exact ih0 _ _ _ _
      | exact ih1 _ _ _ _ _
      | exact ih2 _ _ _ _
      | exact ih3 _ _ _ _
      | exact ih4 _ _ _ _ _ _ _ _
      | exact ih5 _ _ _ _ _
      | exact impl_BreakageOf.mono _ _
      | exact impl_FewestPayments.mono _ _
      | exact spec_A2Ledger.mono _ _
      | exact spec_A2Nets.mono _ _
      | exact spec_A2SamePayments.mono _ _ _
      | exact spec_BreakageOf.mono _ _
      | exact spec_FewestPayments.mono _ _
      | exact LeO.none _
      | refine LeO.ite ?_ ?_
      | refine LeO.bind ?_ (fun _ => ?_)
def laws_FnPayments.T20 : Bool × List (List Nat × List Nat) := (true, [([], []), ([], []), ([], []), ([1, 2], [1, 2]), ([0, 3], [0, 3]), ([], []), ([], []), ([6], [6]), ([5, 7], [5, 7]), ([4, 8, 4], [4, 8]), ([9, 9, 0, 1, 2, 3, 4, 5, 6, 7, 8, 9], [9])])
def laws_FnPayments.B20 : List Nat := [0, 0, 0, 6, 15, 0, 0, 64, 224, 511, 1023]
theorem laws_FnPayments.tab20 : rtab .any (opsOf Try.f4 20) = laws_FnPayments.T20 := by kernel_rfl
theorem laws_FnPayments.bits20 : waitsOk laws_FnPayments.T20.2 laws_FnPayments.B20 = true := by kernel_rfl
theorem laws_FnPayments.dead_j0 : ∀ k y0 y1 y2, ¬ laws_FnPayments.j0 k y0 y1 y2 true = some true
  | 0, _, _, _ => by simp [laws_FnPayments.j0]
  | k + 1, _, _, _ => by simp [laws_FnPayments.j0]
theorem laws_FnPayments.dead_j2 : ∀ k y0 y1 y2, ¬ laws_FnPayments.j2 k y0 y1 y2 true = some true
  | 0, _, _, _ => by simp [laws_FnPayments.j2]
  | k + 1, _, _, _ => by simp [laws_FnPayments.j2]
theorem laws_FnPayments.dead_j5 : ∀ k y0 y1 y2 y3, ¬ laws_FnPayments.j5 k y0 y1 y2 y3 true = some true
  | 0, _, _, _, _ => by simp [laws_FnPayments.j5]
  | k + 1, _, _, _, _ => by simp [laws_FnPayments.j5]
set_option maxHeartbeats 200000000 in
set_option maxRecDepth 100000 in
theorem laws_FnPayments.calls (k : Nat) (A0 : Option Addr) (c0 : Nat) (l0 : List Int) (A1 : Option Addr) (c1 : Nat) (l1 : List Int) (r : Bool) (w : World) (hr0 : Kd.C (Kd.int .u8) w A0 l0.length l0) (hc0 : l0.length ≤ c0) (hr1 : Kd.C (Kd.int .u8) w A1 l1.length l1) (hc1 : l1.length ≤ c1) (h : laws_FnPayments.f k l0 l1 = some r) (hT : r = true) :
    Calls Try.prog 4 #[.slice A0 l0.length c0, .slice A1 l1.length c1] w fun e w' => e = .returned (.bool r) ∧ Below w.heap.size w w' := by
  have HT := Lib.hid hT
  clear hT
  have HR0 := Aside0.mk hr0
  have HC0 := Aside0.mk hc0
  clear hr0 hc0
  have HR1 := Aside0.mk hr1
  have HC1 := Aside0.mk hc1
  clear hr1 hc1
  have HB := Aside0.mk (Below.refl w.heap.size w)
  have H : ((laws_a2Long.f l0 l1).bind fun t287 => (if t287 = true then (some true) else ((spec_A2Nets.f k l0).bind fun t288 => ((impl_FewestPayments.f k t288).bind fun bt291 => ((spec_FewestPayments.f k t288).bind fun bt295 => ((impl_CheckPayments.f t288 bt295.1).bind fun bt299 => (if bt291.2 = bt295.2 then (if bt291.2 = 0 then ((spec_A2SamePayments.f k bt291.1 bt295.1).bind fun t301 => (if t301 = true then (if bt299.2 = 0 then (laws_FnPayments.j0 k l1 t288 bt295.1 (!bt299.1)) else (laws_FnPayments.j0 k l1 t288 bt295.1 true)) else (laws_FnPayments.j0 k l1 t288 bt295.1 true))) else (laws_FnPayments.j0 k l1 t288 bt295.1 true)) else (laws_FnPayments.j0 k l1 t288 bt295.1 true)))))))) = some r := h
  clear h
  replace H := Option.bind_eq_some_iff.mp H
  obtain ⟨t287, A30, H⟩ := H
  replace H : (if t287 = true then (some true) else ((spec_A2Nets.f k l0).bind fun t288 => ((impl_FewestPayments.f k t288).bind fun bt291 => ((spec_FewestPayments.f k t288).bind fun bt295 => ((impl_CheckPayments.f t288 bt295.1).bind fun bt299 => (if bt291.2 = bt295.2 then (if bt291.2 = 0 then ((spec_A2SamePayments.f k bt291.1 bt295.1).bind fun t301 => (if t301 = true then (if bt299.2 = 0 then (laws_FnPayments.j0 k l1 t288 bt295.1 (!bt299.1)) else (laws_FnPayments.j0 k l1 t288 bt295.1 true)) else (laws_FnPayments.j0 k l1 t288 bt295.1 true))) else (laws_FnPayments.j0 k l1 t288 bt295.1 true)) else (laws_FnPayments.j0 k l1 t288 bt295.1 true))))))) = some r := H
  have A3 := Aside0.mk A30
  clear A30
  by_cases c4 : t287 = true
  · subst c4
    have H1 : (some true) = some r := by rw [if_pos rfl] at H; exact H
    clear H
    have H := H1
    clear H1
    obtain rfl := Option.some.inj H
    go_enter Try.func4, Try.ntmps4
    go_wp2_with (first | ((with_reducible refine gate_callee (f := 13) rfl ?_); refine goesL_ (some 28) rfl rfl Try.func13 (by kernel_rfl) rfl #[.slice A0 l0.length c0, .slice A1 l1.length c1] rfl (by (try simp only [List.map_toArray, List.map_cons, List.map_nil]); first | done | rfl | (simp only [List.length_drop, List.length_take]; rfl)) ?_; (with_reducible refine (laws_a2Long.calls _ _ l0 _ _ l1 true _ ?side1 ?side2 ?side3 ?side4 A3.out).mono ?_); (case side1 => repeat (first | exact HR0.out | (with_reducible refine Kd.C_alloc ?_ _) | (with_reducible refine Kd.C_drewN ?_ _) | (with_reducible refine Kd.C_drew ?_))); (case side2 => exact HC0.out); (case side3 => repeat (first | exact HR1.out | (with_reducible refine Kd.C_alloc ?_ _) | (with_reducible refine Kd.C_drewN ?_ _) | (with_reducible refine Kd.C_drew ?_))); (case side4 => exact HC1.out); rintro e w' ⟨rfl, ⟨nd, rfl⟩⟩; refine ⟨_, rfl, ?_⟩))
    go_ret
    exact ⟨by first | rfl | (simp [errW_none, errW_some] <;> rfl) | (simp [*, errW_none, errW_some] <;> rfl), by repeat (first | (with_reducible first | exact HB.out | apply below_alloc | apply pw_below_drewN | apply below_drew1) | exact HB.out)⟩
  · replace c4 := Bool.eq_false_iff.mpr c4
    subst c4
    have H1 : ((spec_A2Nets.f k l0).bind fun t288 => ((impl_FewestPayments.f k t288).bind fun bt291 => ((spec_FewestPayments.f k t288).bind fun bt295 => ((impl_CheckPayments.f t288 bt295.1).bind fun bt299 => (if bt291.2 = bt295.2 then (if bt291.2 = 0 then ((spec_A2SamePayments.f k bt291.1 bt295.1).bind fun t301 => (if t301 = true then (if bt299.2 = 0 then (laws_FnPayments.j0 k l1 t288 bt295.1 (!bt299.1)) else (laws_FnPayments.j0 k l1 t288 bt295.1 true)) else (laws_FnPayments.j0 k l1 t288 bt295.1 true))) else (laws_FnPayments.j0 k l1 t288 bt295.1 true)) else (laws_FnPayments.j0 k l1 t288 bt295.1 true)))))) = some r := by rw [if_neg (show ¬ (false = true) by decide)] at H; exact H
    clear H
    have H := H1
    clear H1
    replace H := Option.bind_eq_some_iff.mp H
    obtain ⟨t288, A50, H⟩ := H
    replace H : ((impl_FewestPayments.f k t288).bind fun bt291 => ((spec_FewestPayments.f k t288).bind fun bt295 => ((impl_CheckPayments.f t288 bt295.1).bind fun bt299 => (if bt291.2 = bt295.2 then (if bt291.2 = 0 then ((spec_A2SamePayments.f k bt291.1 bt295.1).bind fun t301 => (if t301 = true then (if bt299.2 = 0 then (laws_FnPayments.j0 k l1 t288 bt295.1 (!bt299.1)) else (laws_FnPayments.j0 k l1 t288 bt295.1 true)) else (laws_FnPayments.j0 k l1 t288 bt295.1 true))) else (laws_FnPayments.j0 k l1 t288 bt295.1 true)) else (laws_FnPayments.j0 k l1 t288 bt295.1 true))))) = some r := H
    have A5 := Aside0.mk A50
    clear A50
    replace H := Option.bind_eq_some_iff.mp H
    obtain ⟨⟨t291, t292⟩, A60, H⟩ := H
    replace H : ((spec_FewestPayments.f k t288).bind fun bt295 => ((impl_CheckPayments.f t288 bt295.1).bind fun bt299 => (if t292 = bt295.2 then (if t292 = 0 then ((spec_A2SamePayments.f k t291 bt295.1).bind fun t301 => (if t301 = true then (if bt299.2 = 0 then (laws_FnPayments.j0 k l1 t288 bt295.1 (!bt299.1)) else (laws_FnPayments.j0 k l1 t288 bt295.1 true)) else (laws_FnPayments.j0 k l1 t288 bt295.1 true))) else (laws_FnPayments.j0 k l1 t288 bt295.1 true)) else (laws_FnPayments.j0 k l1 t288 bt295.1 true)))) = some r := H
    have A6 := Aside0.mk A60
    clear A60
    replace H := Option.bind_eq_some_iff.mp H
    obtain ⟨⟨t295, t296⟩, A70, H⟩ := H
    replace H : ((impl_CheckPayments.f t288 t295).bind fun bt299 => (if t292 = t296 then (if t292 = 0 then ((spec_A2SamePayments.f k t291 t295).bind fun t301 => (if t301 = true then (if bt299.2 = 0 then (laws_FnPayments.j0 k l1 t288 t295 (!bt299.1)) else (laws_FnPayments.j0 k l1 t288 t295 true)) else (laws_FnPayments.j0 k l1 t288 t295 true))) else (laws_FnPayments.j0 k l1 t288 t295 true)) else (laws_FnPayments.j0 k l1 t288 t295 true))) = some r := H
    have A7 := Aside0.mk A70
    clear A70
    replace H := Option.bind_eq_some_iff.mp H
    obtain ⟨⟨t299, t300⟩, A80, H⟩ := H
    replace H : (if t292 = t296 then (if t292 = 0 then ((spec_A2SamePayments.f k t291 t295).bind fun t301 => (if t301 = true then (if t300 = 0 then (laws_FnPayments.j0 k l1 t288 t295 (!t299)) else (laws_FnPayments.j0 k l1 t288 t295 true)) else (laws_FnPayments.j0 k l1 t288 t295 true))) else (laws_FnPayments.j0 k l1 t288 t295 true)) else (laws_FnPayments.j0 k l1 t288 t295 true)) = some r := H
    have A8 := Aside0.mk A80
    clear A80
    have HC9 := Aside0.mk H
    clear H
    go_enter Try.func4, Try.ntmps4
    go_upto_region 7 with (first | ((with_reducible refine gate_callee (f := 13) rfl ?_); refine goesL_ (some 28) rfl rfl Try.func13 (by kernel_rfl) rfl #[.slice A0 l0.length c0, .slice A1 l1.length c1] rfl (by (try simp only [List.map_toArray, List.map_cons, List.map_nil]); first | done | rfl | (simp only [List.length_drop, List.length_take]; rfl)) ?_; (with_reducible refine (laws_a2Long.calls _ _ l0 _ _ l1 false _ ?side1 ?side2 ?side3 ?side4 A3.out).mono ?_); (case side1 => repeat (first | exact HR0.out | (with_reducible refine Kd.C_alloc ?_ _) | (with_reducible refine Kd.C_drewN ?_ _) | (with_reducible refine Kd.C_drew ?_))); (case side2 => exact HC0.out); (case side3 => repeat (first | exact HR1.out | (with_reducible refine Kd.C_alloc ?_ _) | (with_reducible refine Kd.C_drewN ?_ _) | (with_reducible refine Kd.C_drew ?_))); (case side4 => exact HC1.out); rintro e w' ⟨rfl, ⟨nd, rfl⟩⟩; refine ⟨_, rfl, ?_⟩) | ((with_reducible refine gate_callee (f := 14) rfl ?_); refine goesL_ (some 30) rfl rfl Try.func14 (by kernel_rfl) rfl #[.slice A0 l0.length c0] rfl (by (try simp only [List.map_toArray, List.map_cons, List.map_nil]); first | done | rfl | (simp only [List.length_drop, List.length_take]; rfl)) ?_; (with_reducible refine (spec_A2Nets.calls k _ _ l0 t288 _ ?side1 ?side2 A5.out).mono ?_); (case side1 => repeat (first | exact HR0.out | (with_reducible refine Kd.C_alloc ?_ _) | (with_reducible refine Kd.C_drewN ?_ _) | (with_reducible refine Kd.C_drew ?_))); (case side2 => exact HC0.out); rintro e w10 ⟨v289, rfl, ho0, hb⟩; refine ⟨_, rfl, ?_⟩; have n0_ := Aside0.mk (Kd.R_lower ho0 (below_size (by repeat (first | (with_reducible first | exact HB.out | apply below_alloc | apply pw_below_drewN | apply below_drew1) | exact HB.out)))); have n1_ := Aside0.mk (below_step (by repeat (first | (with_reducible first | exact HB.out | apply below_alloc | apply pw_below_drewN | apply below_drew1) | exact HB.out)) hb); clear HB; have HO290 := n0_; have HB := n1_; clear n0_ n1_; (try clear hb); (try clear hb2); (try clear hk); (try clear hi); (try clear ho0); obtain ⟨Ao11, co11, eo11⟩ := Kd.R_slice HO290.out; subst eo11) | ((with_reducible refine gate_callee (f := 7) rfl ?_); refine goesL_ (some 33) rfl rfl Try.func7 (by kernel_rfl) rfl #[.slice Ao11 t288.length co11] rfl (by (try simp only [List.map_toArray, List.map_cons, List.map_nil]); first | done | rfl | (simp only [List.length_drop, List.length_take]; rfl)) ?_; (with_reducible refine (impl_FewestPayments.calls k _ _ t288 t291 t292 _ ?side1 ?side2 A6.out).mono ?_); (case side1 => repeat (first | exact (Kd.R_reads' HO290.out).2.2 | (with_reducible refine Kd.C_alloc ?_ _) | (with_reducible refine Kd.C_drewN ?_ _) | (with_reducible refine Kd.C_drew ?_))); (case side2 => exact (Kd.R_reads' HO290.out).2.1); rintro e w12 ⟨v293, rfl, ho0, hb⟩; refine ⟨_, rfl, ?_⟩; have n0_ := Aside0.mk (Kd.R_below (by (with_reducible repeat (first | apply Kd.R_alloc | apply Kd.R_drewN | apply Kd.R_drew)); exact HO290.out) hb); have n1_ := Aside0.mk (Kd.R_lower ho0 (below_size (by repeat (first | (with_reducible first | exact HB.out | apply below_alloc | apply pw_below_drewN | apply below_drew1) | exact HB.out)))); have n2_ := Aside0.mk (below_step (by repeat (first | (with_reducible first | exact HB.out | apply below_alloc | apply pw_below_drewN | apply below_drew1) | exact HB.out)) hb); clear HO290; clear HB; have HO290 := n0_; have HO294 := n1_; have HB := n2_; clear n0_ n1_ n2_; (try clear hb); (try clear hb2); (try clear hk); (try clear hi); (try clear ho0)) | ((with_reducible refine gate_callee (f := 5) rfl ?_); refine goesL_ (some 38) rfl rfl Try.func5 (by kernel_rfl) rfl #[.slice Ao11 t288.length co11] rfl (by (try simp only [List.map_toArray, List.map_cons, List.map_nil]); first | done | rfl | (simp only [List.length_drop, List.length_take]; rfl)) ?_; (with_reducible refine (spec_FewestPayments.calls k _ _ t288 t295 t296 _ ?side1 ?side2 A7.out).mono ?_); (case side1 => repeat (first | exact (Kd.R_reads' HO290.out).2.2 | (with_reducible refine Kd.C_alloc ?_ _) | (with_reducible refine Kd.C_drewN ?_ _) | (with_reducible refine Kd.C_drew ?_))); (case side2 => exact (Kd.R_reads' HO290.out).2.1); rintro e w13 ⟨v297, rfl, ho0, hb⟩; refine ⟨_, rfl, ?_⟩; have n0_ := Aside0.mk (Kd.R_below (by (with_reducible repeat (first | apply Kd.R_alloc | apply Kd.R_drewN | apply Kd.R_drew)); exact HO290.out) hb); have n1_ := Aside0.mk (Kd.R_elder' (by (with_reducible repeat (first | apply Kd.R_alloc | apply Kd.R_drewN | apply Kd.R_drew)); exact HO294.out) (Kd.R_base ho0) hb); have n2_ := Aside0.mk (Kd.R_lower (Kd.R_new' ho0 (Kd.R_lt (by (with_reducible repeat (first | apply Kd.R_alloc | apply Kd.R_drewN | apply Kd.R_drew)); exact HO294.out))) (below_size (by repeat (first | (with_reducible first | exact HB.out | apply below_alloc | apply pw_below_drewN | apply below_drew1) | exact HB.out)))); have n3_ := Aside0.mk (below_step (by repeat (first | (with_reducible first | exact HB.out | apply below_alloc | apply pw_below_drewN | apply below_drew1) | exact HB.out)) hb); clear HO290; clear HO294; clear HB; have HO290 := n0_; have HO294 := n1_; have HO298 := n2_; have HB := n3_; clear n0_ n1_ n2_ n3_; (try clear hb); (try clear hb2); (try clear hk); (try clear hi); (try clear ho0); obtain ⟨Ao14, co14, eo14⟩ := Kd.R_slice HO298.out; subst eo14) | ((with_reducible refine gate_callee (f := 15) rfl ?_); refine goesL_ (some 44) rfl rfl Try.func15 (by kernel_rfl) rfl #[.slice Ao11 t288.length co11, .slice Ao14 t295.length co14] rfl (by (try simp only [List.map_toArray, List.map_cons, List.map_nil]); first | done | rfl | (simp only [List.length_drop, List.length_take]; rfl)) ?_; (with_reducible refine (impl_CheckPayments.calls _ _ t288 _ _ t295 t299 t300 _ ?side1 ?side2 ?side3 ?side4 A8.out).mono ?_); (case side1 => repeat (first | exact (Kd.R_reads' HO290.out).2.2 | (with_reducible refine Kd.C_alloc ?_ _) | (with_reducible refine Kd.C_drewN ?_ _) | (with_reducible refine Kd.C_drew ?_))); (case side2 => exact (Kd.R_reads' HO290.out).2.1); (case side3 => repeat (first | exact (Kd.R_reads' HO298.out).2.2 | (with_reducible refine Kd.C_alloc ?_ _) | (with_reducible refine Kd.C_drewN ?_ _) | (with_reducible refine Kd.C_drew ?_))); (case side4 => exact (Kd.R_reads' HO298.out).2.1); rintro e w15 ⟨rfl, hb⟩; refine ⟨_, rfl, ?_⟩; have n0_ := Aside0.mk (Kd.R_below (by (with_reducible repeat (first | apply Kd.R_alloc | apply Kd.R_drewN | apply Kd.R_drew)); exact HO290.out) hb); have n1_ := Aside0.mk (Kd.R_below (by (with_reducible repeat (first | apply Kd.R_alloc | apply Kd.R_drewN | apply Kd.R_drew)); exact HO294.out) hb); have n2_ := Aside0.mk (Kd.R_below (by (with_reducible repeat (first | apply Kd.R_alloc | apply Kd.R_drewN | apply Kd.R_drew)); exact HO298.out) hb); have n3_ := Aside0.mk (below_step (by repeat (first | (with_reducible first | exact HB.out | apply below_alloc | apply pw_below_drewN | apply below_drew1) | exact HB.out)) hb); clear HO290; clear HO294; clear HO298; clear HB; have HO290 := n0_; have HO294 := n1_; have HO298 := n2_; have HB := n3_; clear n0_ n1_ n2_ n3_; (try clear hb); (try clear hb2); (try clear hk); (try clear hi)))
    (try simp only [Act.put, List.setIfInBounds_toArray, List.set_cons_zero, List.set_cons_succ])
    go_cut [67] (fun v67 wc => ∃ (kq : Nat) (x67_8 : Bool), v67 = .bool x67_8 ∧ Aside0 (laws_FnPayments.j0 kq l1 t288 t295 x67_8 = some r) ∧ Aside0 (kq ≤ k) ∧ Aside0 (Kd.R (Kd.int .i64) 2 wc w.heap.size (fun _ => True) (.slice Ao11 t288.length co11) t288) ∧ Aside0 (Kd.R k39 39 wc w.heap.size (fun _ => True) (.slice Ao14 t295.length co14) t295) ∧ Aside0 (Below w.heap.size w wc))
    case first => as_aux_lemma =>
      have H := HC9.out
      clear HC9
      by_cases c16 : t292 = t296
      · rw [if_pos c16] at H
        have c16b0 : (t292 == t296) = true := beq_iff_eq.mpr c16
        have c16b1 : (t292 != t296) = false := bne_eq_false_iff_eq.mpr c16
        clear c16
        (first | rw [c16b0] | (simp only [i64_w, i32_w]; rw [c16b0]) | skip)
        by_cases c17 : t292 = 0
        · rw [if_pos c17] at H
          have c17b0 : (t292 == 0) = true := beq_iff_eq.mpr c17
          have c17b1 : (t292 != 0) = false := bne_eq_false_iff_eq.mpr c17
          clear c17
          replace H := Option.bind_eq_some_iff.mp H
          obtain ⟨t301, A180, H⟩ := H
          replace H : (if t301 = true then (if t300 = 0 then (laws_FnPayments.j0 k l1 t288 t295 (!t299)) else (laws_FnPayments.j0 k l1 t288 t295 true)) else (laws_FnPayments.j0 k l1 t288 t295 true)) = some r := H
          have A18 := Aside0.mk A180
          clear A180
          by_cases c19 : t301 = true
          · subst c19
            have H1 : (if t300 = 0 then (laws_FnPayments.j0 k l1 t288 t295 (!t299)) else (laws_FnPayments.j0 k l1 t288 t295 true)) = some r := by rw [if_pos rfl] at H; exact H
            clear H
            have H := H1
            clear H1
            by_cases c20 : t300 = 0
            · rw [if_pos c20] at H
              have c20b0 : (t300 == 0) = true := beq_iff_eq.mpr c20
              have c20b1 : (t300 != 0) = false := bne_eq_false_iff_eq.mpr c20
              clear c20
              have H' := Aside0.mk H
              clear H
              obtain ⟨Ao21, co21, eo21⟩ := Kd.R_slice HO294.out
              subst eo21
              go_wp2_with (first | (go_at_call 16; (with_reducible refine (spec_A2SamePayments.calls k _ _ t291 _ _ t295 true _ ?side1 ?side2 ?side3 ?side4 A18.out).mono ?_); (case side1 => repeat (first | exact (Kd.R_reads' HO294.out).2.2 | (with_reducible refine Kd.C_alloc ?_ _) | (with_reducible refine Kd.C_drewN ?_ _) | (with_reducible refine Kd.C_drew ?_))); (case side2 => exact (Kd.R_reads' HO294.out).2.1); (case side3 => repeat (first | exact (Kd.R_reads' HO298.out).2.2 | (with_reducible refine Kd.C_alloc ?_ _) | (with_reducible refine Kd.C_drewN ?_ _) | (with_reducible refine Kd.C_drew ?_))); (case side4 => exact (Kd.R_reads' HO298.out).2.1); rintro e w' ⟨rfl, ⟨nd, rfl⟩⟩))
              go_meet
              case rel => exact ⟨_, (!t299), (by first | rfl | (simp; done) | (simp [*]; done)), H', ⟨by first | omega | exact Nat.le_refl _⟩, ⟨by (with_reducible repeat (first | apply Kd.R_alloc | apply Kd.R_drewN | apply Kd.R_drew)); exact HO290.out⟩, ⟨by (with_reducible repeat (first | apply Kd.R_alloc | apply Kd.R_drewN | apply Kd.R_drew)); exact Kd.R_mono HO298.out (fun _ hk => trivial)⟩, ⟨by repeat (first | (with_reducible first | exact HB.out | apply below_alloc | apply pw_below_drewN | apply below_drew1) | exact HB.out)⟩⟩
            · rw [if_neg c20] at H
              have c20b0 : (t300 == 0) = false := beq_eq_false_iff_ne.mpr c20
              have c20b1 : (t300 != 0) = true := bne_iff_ne.mpr c20
              exact absurd (H.trans (congrArg some HT.out)) (laws_FnPayments.dead_j0 _ _ _ _)
          · replace c19 := Bool.eq_false_iff.mpr c19
            subst c19
            have H1 : (laws_FnPayments.j0 k l1 t288 t295 true) = some r := by rw [if_neg (show ¬ (false = true) by decide)] at H; exact H
            clear H
            have H := H1
            clear H1
            exact absurd (H.trans (congrArg some HT.out)) (laws_FnPayments.dead_j0 _ _ _ _)
        · rw [if_neg c17] at H
          have c17b0 : (t292 == 0) = false := beq_eq_false_iff_ne.mpr c17
          have c17b1 : (t292 != 0) = true := bne_iff_ne.mpr c17
          exact absurd (H.trans (congrArg some HT.out)) (laws_FnPayments.dead_j0 _ _ _ _)
      · rw [if_neg c16] at H
        have c16b0 : (t292 == t296) = false := beq_eq_false_iff_ne.mpr c16
        have c16b1 : (t292 != t296) = true := bne_iff_ne.mpr c16
        (first | rw [c16b0] | (simp only [i64_w, i32_w]; rw [c16b0]) | skip)
        exact absurd (H.trans (congrArg some HT.out)) (laws_FnPayments.dead_j0 _ _ _ _)
    case rest => as_aux_lemma =>
      clear HC9
      try clear c1
      try clear c2
      try clear p2
      try clear c4
      try clear c5
      try clear c7
      try clear c13
      try clear c14
      try clear c15
      try clear c16
      try clear c16b0
      try clear c16b1
      try clear c17
      try clear c17b0
      try clear c17b1
      try clear c19
      try clear c20
      try clear c20b0
      try clear c20b1
      obtain ⟨kq, x67_8, rfl, HA, HJ8, HO_5, HO_8, HB⟩ := hcut
      cases kq with
      | zero => exact absurd HA.out (by simp [laws_FnPayments.j0])
      | succ kj8 =>
        have H := HA.out
        clear HA
        simp only [laws_FnPayments.j0] at H
        by_cases c24 : x67_8 = true
        · subst c24
          have H1 : (some false) = some r := by rw [if_pos rfl] at H; exact H
          clear H
          have H := H1
          clear H1
          exact absurd (Option.some.inj (H.trans (congrArg some HT.out))) Bool.false_ne_true
        · replace c24 := Bool.eq_false_iff.mpr c24
          subst c24
          have H1 : (laws_FnPayments.l0 kj8 l1 t288 t295 0 0) = some r := by rw [if_neg (show ¬ (false = true) by decide)] at H; exact H
          clear H
          have H := H1
          clear H1
          have H' := Aside0.mk H
          clear H
          go_wp2
          go_loopg [12, 13] kj8 (fun kq v12 v13 w' => ∃ (x12_2 : Int) (x13_2 : Int), v12 = .int .i64 x12_2 ∧ v13 = .int .i64 x13_2 ∧ Aside0 (laws_FnPayments.l0 kq l1 t288 t295 x12_2 x13_2 = some r) ∧ Aside0 (kq ≤ kj8) ∧ Aside0 (Kd.R (Kd.int .i64) 2 w' w.heap.size (fun _ => True) (.slice Ao11 t288.length co11) t288) ∧ Aside0 (Kd.R k39 39 w' w.heap.size (fun _ => True) (.slice Ao14 t295.length co14) t295) ∧ Aside0 (Below w.heap.size w w'))
          case atStart => exact ⟨(0), (0), (by first | rfl | (simp; done) | (simp [*]; done)), (by first | rfl | (simp; done) | (simp [*]; done)), H', ⟨Nat.le_refl _⟩, ⟨by (with_reducible repeat (first | apply Kd.R_alloc | apply Kd.R_drewN | apply Kd.R_drew)); exact HO_5.out⟩, ⟨by (with_reducible repeat (first | apply Kd.R_alloc | apply Kd.R_drewN | apply Kd.R_drew)); exact HO_8.out⟩, ⟨by repeat (first | (with_reducible first | exact HB.out | apply below_alloc | apply pw_below_drewN | apply below_drew1) | exact HB.out)⟩⟩
          case round => as_aux_lemma =>
            clear H'
            try clear c1
            try clear c2
            try clear p2
            try clear c4
            try clear c5
            try clear c7
            try clear c13
            try clear c14
            try clear c15
            try clear c16
            try clear c16b0
            try clear c16b1
            try clear c17
            try clear c17b0
            try clear c17b1
            try clear c19
            try clear c20
            try clear c20b0
            try clear c20b1
            try clear c24
            try clear p2
            obtain ⟨x12_2, x13_2, rfl, rfl, HA, HK2, HO_5, HO_8, HB⟩ := hrel
            cases gk with
            | zero => exact absurd HA.out (by simp [laws_FnPayments.l0])
            | succ k2 =>
              have H := HA.out
              clear HA
              simp only [laws_FnPayments.l0] at H
              by_cases c25 : x13_2 < (t288.length : Int)
              · rw [if_pos c25] at H
                have c25b0 : decide (x13_2 < (t288.length : Int)) = true := decide_eq_true c25
                clear c25
                by_cases c26 : 0 ≤ x13_2
                · rw [if_pos c26] at H
                  have c26b0 : decide (0 ≤ x13_2) = true := decide_eq_true c26
                  clear c26
                  by_cases c27 : (rd t288 x13_2) = 0
                  · rw [if_pos c27] at H
                    have c27b0 : ((rd t288 x13_2) == 0) = true := beq_iff_eq.mpr c27
                    have c27b1 : ((rd t288 x13_2) != 0) = false := bne_eq_false_iff_eq.mpr c27
                    clear c27
                    have H' := Aside0.mk H
                    clear H
                    have p302 : 0 ≤ (x13_2 : Int) := of_decide_eq_true (by first | (with_reducible assumption) | assumption)
                    have q302 : x13_2 < (t288.length : Int) := of_decide_eq_true (by first | (with_reducible assumption) | assumption)
                    obtain ⟨ad302, e302, hx302_0⟩ := Kd.at_int (Kd.R_reads' HO_5.out).2.2 x13_2 p302 q302
                    cases e302
                    replace p302 := eq_true p302
                    replace q302 := eq_true q302
                    go_wp2
                    go_roundg k2
                    case measure => have := HJ8.out; have := HK2.out; omega
                    case rel => exact ⟨(x12_2), (wrap64 (x13_2 + 1)), (by first | rfl | (simp; done) | (simp [*]; done)), (by first | rfl | (simp; done) | (simp [*]; done)), H', ⟨by have := HJ8.out; have := HK2.out; omega⟩, ⟨by (with_reducible repeat (first | apply Kd.R_alloc | apply Kd.R_drewN | apply Kd.R_drew)); exact HO_5.out⟩, ⟨by (with_reducible repeat (first | apply Kd.R_alloc | apply Kd.R_drewN | apply Kd.R_drew)); exact HO_8.out⟩, ⟨by repeat (first | (with_reducible first | exact HB.out | apply below_alloc | apply pw_below_drewN | apply below_drew1) | exact HB.out)⟩⟩
                  · rw [if_neg c27] at H
                    have c27b0 : ((rd t288 x13_2) == 0) = false := beq_eq_false_iff_ne.mpr c27
                    have c27b1 : ((rd t288 x13_2) != 0) = true := bne_iff_ne.mpr c27
                    have H' := Aside0.mk H
                    clear H
                    have p302 : 0 ≤ (x13_2 : Int) := of_decide_eq_true (by first | (with_reducible assumption) | assumption)
                    have q302 : x13_2 < (t288.length : Int) := of_decide_eq_true (by first | (with_reducible assumption) | assumption)
                    obtain ⟨ad302, e302, hx302_0⟩ := Kd.at_int (Kd.R_reads' HO_5.out).2.2 x13_2 p302 q302
                    cases e302
                    replace p302 := eq_true p302
                    replace q302 := eq_true q302
                    go_wp2
                    go_roundg k2
                    case measure => have := HJ8.out; have := HK2.out; omega
                    case rel => exact ⟨(wrap64 (x12_2 + 1)), (wrap64 (x13_2 + 1)), (by first | rfl | (simp; done) | (simp [*]; done)), (by first | rfl | (simp; done) | (simp [*]; done)), H', ⟨by have := HJ8.out; have := HK2.out; omega⟩, ⟨by (with_reducible repeat (first | apply Kd.R_alloc | apply Kd.R_drewN | apply Kd.R_drew)); exact HO_5.out⟩, ⟨by (with_reducible repeat (first | apply Kd.R_alloc | apply Kd.R_drewN | apply Kd.R_drew)); exact HO_8.out⟩, ⟨by repeat (first | (with_reducible first | exact HB.out | apply below_alloc | apply pw_below_drewN | apply below_drew1) | exact HB.out)⟩⟩
                · rw [if_neg c26] at H
                  exact absurd H (by simp)
              · rw [if_neg c25] at H
                have c25b0 : decide (x13_2 < (t288.length : Int)) = false := decide_eq_false c25
                clear c25
                have HC28 := Aside0.mk H
                clear H
                go_upto_region 15 with (fail)
                go_cut [93] (fun v93 wc => ∃ (kq : Nat) (x93_27 : Bool), v93 = .bool x93_27 ∧ Aside0 (laws_FnPayments.j2 kq l1 t288 t295 x93_27 = some r) ∧ Aside0 (kq ≤ k2) ∧ Aside0 (Kd.R (Kd.int .i64) 2 wc w.heap.size (fun _ => True) (.slice Ao11 t288.length co11) t288) ∧ Aside0 (Kd.R k39 39 wc w.heap.size (fun _ => True) (.slice Ao14 t295.length co14) t295) ∧ Aside0 (Below w.heap.size w wc))
                case first => as_aux_lemma =>
                  have H := HC28.out
                  clear HC28
                  obtain ⟨ji29, hji29⟩ : ∃ j_ : Int, (mx 0 (wrap64 (x12_2 - 1))) = j_ := ⟨_, rfl⟩
                  replace H : (if (t295.length : Int) > (ji29) then (laws_FnPayments.j2 k2 l1 t288 t295 true) else (laws_FnPayments.j2 k2 l1 t288 t295 (decide ((wrap64 (2 * (t295.length : Int))) < x12_2)))) = some r := by first | (rw [hji29] at H; exact H) | (simp only [hji29] at H ⊢; exact H)
                  have hji29_ : (if 0 < (wrap64 (x12_2 - 1)) then (wrap64 (x12_2 - 1)) else 0) = ji29 := hji29
                  by_cases c30 : (t295.length : Int) > (ji29)
                  · rw [if_pos c30] at H
                    have c30b0 : decide ((ji29) < (t295.length : Int)) = true := decide_eq_true c30
                    clear c30
                    (first | rw [c30b0] | (simp only [i64_w, i32_w]; rw [c30b0]) | skip)
                    exact absurd (H.trans (congrArg some HT.out)) (laws_FnPayments.dead_j2 _ _ _ _)
                  · rw [if_neg c30] at H
                    have c30b0 : decide ((ji29) < (t295.length : Int)) = false := decide_eq_false c30
                    clear c30
                    (first | rw [c30b0] | (simp only [i64_w, i32_w]; rw [c30b0]) | skip)
                    have H' := Aside0.mk H
                    clear H
                    go_wp2
                    go_meet
                    case rel => exact ⟨_, (decide ((wrap64 (2 * (t295.length : Int))) < x12_2)), (by first | rfl | (simp; done) | (simp [*]; done)), H', ⟨by have := HJ8.out; have := HK2.out; first | omega | exact Nat.le_refl _⟩, ⟨by (with_reducible repeat (first | apply Kd.R_alloc | apply Kd.R_drewN | apply Kd.R_drew)); exact HO_5.out⟩, ⟨by (with_reducible repeat (first | apply Kd.R_alloc | apply Kd.R_drewN | apply Kd.R_drew)); exact HO_8.out⟩, ⟨by repeat (first | (with_reducible first | exact HB.out | apply below_alloc | apply pw_below_drewN | apply below_drew1) | exact HB.out)⟩⟩
                case rest => as_aux_lemma =>
                  clear HC28
                  try clear c1
                  try clear c2
                  try clear p2
                  try clear c3
                  try clear p3
                  try clear q3
                  try clear hx3
                  try clear c4
                  try clear c5
                  try clear p6
                  try clear c7
                  try clear c13
                  try clear c14
                  try clear c15
                  try clear c16
                  try clear c16b0
                  try clear c16b1
                  try clear c17
                  try clear c17b0
                  try clear c17b1
                  try clear c19
                  try clear c20
                  try clear c20b0
                  try clear c20b1
                  try clear c24
                  try clear c25
                  try clear c25b0
                  try clear c26
                  try clear c26b0
                  try clear c27
                  try clear c27b0
                  try clear c27b1
                  try clear c30
                  try clear c30b0
                  try clear p30
                  try clear q30
                  try clear hx30
                  try clear hx302_0
                  try clear p2
                  try clear p302
                  try clear q302
                  obtain ⟨kq, x93_27, rfl, HA, HJ27, HO_5, HO_8, HB⟩ := hcut
                  cases kq with
                  | zero => exact absurd HA.out (by simp [laws_FnPayments.j2])
                  | succ kj27 =>
                    have H := HA.out
                    clear HA
                    simp only [laws_FnPayments.j2] at H
                    by_cases c31 : x93_27 = true
                    · subst c31
                      have H1 : (some false) = some r := by rw [if_pos rfl] at H; exact H
                      clear H
                      have H := H1
                      clear H1
                      exact absurd (Option.some.inj (H.trans (congrArg some HT.out))) Bool.false_ne_true
                    · replace c31 := Bool.eq_false_iff.mpr c31
                      subst c31
                      have H1 : (laws_FnPayments.l1 kj27 l1 t288 t295 0) = some r := by rw [if_neg (show ¬ (false = true) by decide)] at H; exact H
                      clear H
                      have H := H1
                      clear H1
                      have H' := Aside0.mk H
                      clear H
                      go_wp2
                      go_loopg [14] kj27 (fun kq v14 w' => ∃ (x14_4 : Int), v14 = .int .i64 x14_4 ∧ Aside0 (laws_FnPayments.l1 kq l1 t288 t295 x14_4 = some r) ∧ Aside0 (kq ≤ kj27) ∧ Aside0 (Kd.R (Kd.int .i64) 2 w' w.heap.size (fun _ => True) (.slice Ao11 t288.length co11) t288) ∧ Aside0 (Kd.R k39 39 w' w.heap.size (fun _ => True) (.slice Ao14 t295.length co14) t295) ∧ Aside0 (Below w.heap.size w w'))
                      case atStart => exact ⟨(0), (by first | rfl | (simp; done) | (simp [*]; done)), H', ⟨Nat.le_refl _⟩, ⟨by (with_reducible repeat (first | apply Kd.R_alloc | apply Kd.R_drewN | apply Kd.R_drew)); exact HO_5.out⟩, ⟨by (with_reducible repeat (first | apply Kd.R_alloc | apply Kd.R_drewN | apply Kd.R_drew)); exact HO_8.out⟩, ⟨by repeat (first | (with_reducible first | exact HB.out | apply below_alloc | apply pw_below_drewN | apply below_drew1) | exact HB.out)⟩⟩
                      case round => as_aux_lemma =>
                        clear H'
                        try clear c1
                        try clear c2
                        try clear p2
                        try clear c3
                        try clear p3
                        try clear q3
                        try clear hx3
                        try clear c4
                        try clear c5
                        try clear p6
                        try clear c7
                        try clear c13
                        try clear c14
                        try clear c15
                        try clear c16
                        try clear c16b0
                        try clear c16b1
                        try clear c17
                        try clear c17b0
                        try clear c17b1
                        try clear c19
                        try clear c20
                        try clear c20b0
                        try clear c20b1
                        try clear c24
                        try clear c25
                        try clear c25b0
                        try clear c26
                        try clear c26b0
                        try clear c27
                        try clear c27b0
                        try clear c27b1
                        try clear c30
                        try clear c30b0
                        try clear p30
                        try clear q30
                        try clear hx30
                        try clear c31
                        try clear hx302_0
                        try clear p2
                        try clear p3
                        try clear p30
                        try clear p302
                        try clear p6
                        try clear q3
                        try clear q30
                        try clear q302
                        obtain ⟨x14_4, rfl, HA, HK4, HO_5, HO_8, HB⟩ := hrel
                        cases gk with
                        | zero => exact absurd HA.out (by simp [laws_FnPayments.l1])
                        | succ k4 =>
                          have H := HA.out
                          clear HA
                          simp only [laws_FnPayments.l1] at H
                          by_cases c32 : x14_4 < (t295.length : Int)
                          · rw [if_pos c32] at H
                            have c32b0 : decide (x14_4 < (t295.length : Int)) = true := decide_eq_true c32
                            clear c32
                            obtain ⟨y303, hy303⟩ : ∃ y_ : List (S39), y_ = (([] : List (S39))) := ⟨_, rfl⟩
                            replace H : (if 0 ≤ x14_4 then (if x14_4 ≤ (t295.length : Int) then ((some (t295.take (x14_4 : Int).toNat : List (S39))).bind fun y306 => (if y303.length + y306.length < 8796093022208 then ((some (y303 ++ y306 : List (S39))).bind fun y310 => (if 0 ≤ (wrap64 (x14_4 + 1)) then (if (wrap64 (x14_4 + 1)) ≤ (t295.length : Int) then ((some (t295.drop ((wrap64 (x14_4 + 1)) : Int).toNat : List (S39))).bind fun y313 => (if y310.length + y313.length < 8796093022208 then ((impl_CheckPayments.f t288 (y310 ++ y313)).bind fun bt320 => (if bt320.2 = 0 then (if bt320.1 = true then (some false) else (if ((rd_T39 t295 x14_4).f2) < 1 then (some false) else (if 0 ≤ ((rd_T39 t295 x14_4).f0) then (if ((rd_T39 t295 x14_4).f0) < (t288.length : Int) then (if (rd t288 ((rd_T39 t295 x14_4).f0)) ≥ 0 then (some false) else (if 0 ≤ ((rd_T39 t295 x14_4).f1) then (if ((rd_T39 t295 x14_4).f1) < (t288.length : Int) then (if (rd t288 ((rd_T39 t295 x14_4).f1)) ≤ 0 then (some false) else (laws_FnPayments.l1 k4 l1 t288 t295 (wrap64 (x14_4 + 1)))) else (none)) else (none))) else (none)) else (none)))) else (some false))) else (none))) else (none)) else (none))) else (none))) else (none)) else (none)) = some r := by first | (rw [hy303]; with_reducible exact H) | (have H2_ := (Option.bind_some _ _).symm.trans H; rw [hy303]; with_reducible exact H2_) | (have H2_ := (Option.bind_some _ _).symm.trans H; with_reducible exact H2_) | with_reducible exact H | (rw [hy303]; exact H) | exact H
                            have Ny303 := Aside0.mk hy303
                            clear hy303
                            by_cases c33 : 0 ≤ x14_4
                            · rw [if_pos c33] at H
                              have c33b0 := eq_true c33
                              have c33b1 : decide (0 ≤ x14_4) = true := decide_eq_true c33
                              clear c33
                              by_cases c34 : x14_4 ≤ (t295.length : Int)
                              · rw [if_pos c34] at H
                                have c34b0 := eq_true c34
                                have c34b1 : decide (x14_4 ≤ (t295.length : Int)) = true := decide_eq_true c34
                                clear c34
                                obtain ⟨y306, hy306⟩ : ∃ y_ : List (S39), y_ = (t295.take (x14_4 : Int).toNat) := ⟨_, rfl⟩
                                replace H : (if y303.length + y306.length < 8796093022208 then ((some (y303 ++ y306 : List (S39))).bind fun y310 => (if 0 ≤ (wrap64 (x14_4 + 1)) then (if (wrap64 (x14_4 + 1)) ≤ (t295.length : Int) then ((some (t295.drop ((wrap64 (x14_4 + 1)) : Int).toNat : List (S39))).bind fun y313 => (if y310.length + y313.length < 8796093022208 then ((impl_CheckPayments.f t288 (y310 ++ y313)).bind fun bt320 => (if bt320.2 = 0 then (if bt320.1 = true then (some false) else (if ((rd_T39 t295 x14_4).f2) < 1 then (some false) else (if 0 ≤ ((rd_T39 t295 x14_4).f0) then (if ((rd_T39 t295 x14_4).f0) < (t288.length : Int) then (if (rd t288 ((rd_T39 t295 x14_4).f0)) ≥ 0 then (some false) else (if 0 ≤ ((rd_T39 t295 x14_4).f1) then (if ((rd_T39 t295 x14_4).f1) < (t288.length : Int) then (if (rd t288 ((rd_T39 t295 x14_4).f1)) ≤ 0 then (some false) else (laws_FnPayments.l1 k4 l1 t288 t295 (wrap64 (x14_4 + 1)))) else (none)) else (none))) else (none)) else (none)))) else (some false))) else (none))) else (none)) else (none))) else (none)) = some r := by first | (rw [hy306]; with_reducible exact H) | (have H2_ := (Option.bind_some _ _).symm.trans H; rw [hy306]; with_reducible exact H2_) | (have H2_ := (Option.bind_some _ _).symm.trans H; with_reducible exact H2_) | with_reducible exact H | (rw [hy306]; exact H) | exact H
                                have Ny306 := Aside0.mk hy306
                                clear hy306
                                by_cases c35 : y303.length + y306.length < 8796093022208
                                · rw [if_pos c35] at H
                                  have LMc35 := Aside0.mk c35
                                  clear c35
                                  obtain ⟨y310, hy310⟩ : ∃ y_ : List (S39), y_ = (y303 ++ y306) := ⟨_, rfl⟩
                                  replace H : (if 0 ≤ (wrap64 (x14_4 + 1)) then (if (wrap64 (x14_4 + 1)) ≤ (t295.length : Int) then ((some (t295.drop ((wrap64 (x14_4 + 1)) : Int).toNat : List (S39))).bind fun y313 => (if y310.length + y313.length < 8796093022208 then ((impl_CheckPayments.f t288 (y310 ++ y313)).bind fun bt320 => (if bt320.2 = 0 then (if bt320.1 = true then (some false) else (if ((rd_T39 t295 x14_4).f2) < 1 then (some false) else (if 0 ≤ ((rd_T39 t295 x14_4).f0) then (if ((rd_T39 t295 x14_4).f0) < (t288.length : Int) then (if (rd t288 ((rd_T39 t295 x14_4).f0)) ≥ 0 then (some false) else (if 0 ≤ ((rd_T39 t295 x14_4).f1) then (if ((rd_T39 t295 x14_4).f1) < (t288.length : Int) then (if (rd t288 ((rd_T39 t295 x14_4).f1)) ≤ 0 then (some false) else (laws_FnPayments.l1 k4 l1 t288 t295 (wrap64 (x14_4 + 1)))) else (none)) else (none))) else (none)) else (none)))) else (some false))) else (none))) else (none)) else (none)) = some r := by first | (rw [hy310]; with_reducible exact H) | (have H2_ := (Option.bind_some _ _).symm.trans H; rw [hy310]; with_reducible exact H2_) | (have H2_ := (Option.bind_some _ _).symm.trans H; with_reducible exact H2_) | with_reducible exact H | (rw [hy310]; exact H) | exact H
                                  have Ny310 := Aside0.mk hy310
                                  clear hy310
                                  obtain ⟨ji36, hji36⟩ : ∃ j_ : Int, (wrap64 (x14_4 + 1)) = j_ := ⟨_, rfl⟩
                                  replace H : (if 0 ≤ (ji36) then (if (ji36) ≤ (t295.length : Int) then ((some (t295.drop ((ji36) : Int).toNat : List (S39))).bind fun y313 => (if y310.length + y313.length < 8796093022208 then ((impl_CheckPayments.f t288 (y310 ++ y313)).bind fun bt320 => (if bt320.2 = 0 then (if bt320.1 = true then (some false) else (if ((rd_T39 t295 x14_4).f2) < 1 then (some false) else (if 0 ≤ ((rd_T39 t295 x14_4).f0) then (if ((rd_T39 t295 x14_4).f0) < (t288.length : Int) then (if (rd t288 ((rd_T39 t295 x14_4).f0)) ≥ 0 then (some false) else (if 0 ≤ ((rd_T39 t295 x14_4).f1) then (if ((rd_T39 t295 x14_4).f1) < (t288.length : Int) then (if (rd t288 ((rd_T39 t295 x14_4).f1)) ≤ 0 then (some false) else (laws_FnPayments.l1 k4 l1 t288 t295 ji36)) else (none)) else (none))) else (none)) else (none)))) else (some false))) else (none))) else (none)) else (none)) = some r := by first | (rw [hji36] at H; exact H) | (simp only [hji36] at H ⊢; exact H)
                                  have hji36w : (IntKind.i64.wrap (x14_4 + 1)) = ji36 := (i64_w _).trans hji36
                                  by_cases c37 : 0 ≤ (ji36)
                                  · rw [if_pos c37] at H
                                    have c37b0 := eq_true c37
                                    have c37b1 : decide (0 ≤ (ji36)) = true := decide_eq_true c37
                                    clear c37
                                    by_cases c38 : (ji36) ≤ (t295.length : Int)
                                    · rw [if_pos c38] at H
                                      have c38b0 := eq_true c38
                                      have c38b1 : decide ((ji36) ≤ (t295.length : Int)) = true := decide_eq_true c38
                                      clear c38
                                      obtain ⟨y313, hy313⟩ : ∃ y_ : List (S39), y_ = (t295.drop ((ji36) : Int).toNat) := ⟨_, rfl⟩
                                      replace H : (if y310.length + y313.length < 8796093022208 then ((impl_CheckPayments.f t288 (y310 ++ y313)).bind fun bt320 => (if bt320.2 = 0 then (if bt320.1 = true then (some false) else (if ((rd_T39 t295 x14_4).f2) < 1 then (some false) else (if 0 ≤ ((rd_T39 t295 x14_4).f0) then (if ((rd_T39 t295 x14_4).f0) < (t288.length : Int) then (if (rd t288 ((rd_T39 t295 x14_4).f0)) ≥ 0 then (some false) else (if 0 ≤ ((rd_T39 t295 x14_4).f1) then (if ((rd_T39 t295 x14_4).f1) < (t288.length : Int) then (if (rd t288 ((rd_T39 t295 x14_4).f1)) ≤ 0 then (some false) else (laws_FnPayments.l1 k4 l1 t288 t295 ji36)) else (none)) else (none))) else (none)) else (none)))) else (some false))) else (none)) = some r := by first | (rw [hy313]; with_reducible exact H) | (have H2_ := (Option.bind_some _ _).symm.trans H; rw [hy313]; with_reducible exact H2_) | (have H2_ := (Option.bind_some _ _).symm.trans H; with_reducible exact H2_) | with_reducible exact H | (rw [hy313]; exact H) | exact H
                                      have Ny313 := Aside0.mk hy313
                                      clear hy313
                                      by_cases c39 : y310.length + y313.length < 8796093022208
                                      · rw [if_pos c39] at H
                                        have LMc39 := Aside0.mk c39
                                        clear c39
                                        obtain ⟨y317, hy317⟩ : ∃ y_ : List (S39), y_ = (y310 ++ y313) := ⟨_, rfl⟩
                                        replace H : ((impl_CheckPayments.f t288 y317).bind fun bt320 => (if bt320.2 = 0 then (if bt320.1 = true then (some false) else (if ((rd_T39 t295 x14_4).f2) < 1 then (some false) else (if 0 ≤ ((rd_T39 t295 x14_4).f0) then (if ((rd_T39 t295 x14_4).f0) < (t288.length : Int) then (if (rd t288 ((rd_T39 t295 x14_4).f0)) ≥ 0 then (some false) else (if 0 ≤ ((rd_T39 t295 x14_4).f1) then (if ((rd_T39 t295 x14_4).f1) < (t288.length : Int) then (if (rd t288 ((rd_T39 t295 x14_4).f1)) ≤ 0 then (some false) else (laws_FnPayments.l1 k4 l1 t288 t295 ji36)) else (none)) else (none))) else (none)) else (none)))) else (some false))) = some r := by first | (rw [hy317]; with_reducible exact H) | (have H2_ := (Option.bind_some _ _).symm.trans H; rw [hy317]; with_reducible exact H2_) | (have H2_ := (Option.bind_some _ _).symm.trans H; with_reducible exact H2_) | with_reducible exact H | (rw [hy317]; exact H) | exact H
                                        have Ny317 := Aside0.mk hy317
                                        clear hy317
                                        replace H := Option.bind_eq_some_iff.mp H
                                        obtain ⟨⟨t320, t321⟩, A400, H⟩ := H
                                        replace H : (if t321 = 0 then (if t320 = true then (some false) else (if ((rd_T39 t295 x14_4).f2) < 1 then (some false) else (if 0 ≤ ((rd_T39 t295 x14_4).f0) then (if ((rd_T39 t295 x14_4).f0) < (t288.length : Int) then (if (rd t288 ((rd_T39 t295 x14_4).f0)) ≥ 0 then (some false) else (if 0 ≤ ((rd_T39 t295 x14_4).f1) then (if ((rd_T39 t295 x14_4).f1) < (t288.length : Int) then (if (rd t288 ((rd_T39 t295 x14_4).f1)) ≤ 0 then (some false) else (laws_FnPayments.l1 k4 l1 t288 t295 ji36)) else (none)) else (none))) else (none)) else (none)))) else (some false)) = some r := H
                                        have A40 := Aside0.mk A400
                                        clear A400
                                        by_cases c41 : t321 = 0
                                        · rw [if_pos c41] at H
                                          have c41b0 : (t321 == 0) = true := beq_iff_eq.mpr c41
                                          have c41b1 : (t321 != 0) = false := bne_eq_false_iff_eq.mpr c41
                                          clear c41
                                          by_cases c42 : t320 = true
                                          · subst c42
                                            have H1 : (some false) = some r := by rw [if_pos rfl] at H; exact H
                                            clear H
                                            have H := H1
                                            clear H1
                                            exact absurd (Option.some.inj (H.trans (congrArg some HT.out))) Bool.false_ne_true
                                          · replace c42 := Bool.eq_false_iff.mpr c42
                                            subst c42
                                            have H1 : (if ((rd_T39 t295 x14_4).f2) < 1 then (some false) else (if 0 ≤ ((rd_T39 t295 x14_4).f0) then (if ((rd_T39 t295 x14_4).f0) < (t288.length : Int) then (if (rd t288 ((rd_T39 t295 x14_4).f0)) ≥ 0 then (some false) else (if 0 ≤ ((rd_T39 t295 x14_4).f1) then (if ((rd_T39 t295 x14_4).f1) < (t288.length : Int) then (if (rd t288 ((rd_T39 t295 x14_4).f1)) ≤ 0 then (some false) else (laws_FnPayments.l1 k4 l1 t288 t295 ji36)) else (none)) else (none))) else (none)) else (none))) = some r := by rw [if_neg (show ¬ (false = true) by decide)] at H; exact H
                                            clear H
                                            have H := H1
                                            clear H1
                                            by_cases c52 : ((rd_T39 t295 x14_4).f2) < 1
                                            · rw [if_pos c52] at H
                                              have c52b0 : decide (((rd_T39 t295 x14_4).f2) < 1) = true := decide_eq_true c52
                                              clear c52
                                              exact absurd (Option.some.inj (H.trans (congrArg some HT.out))) Bool.false_ne_true
                                            · rw [if_neg c52] at H
                                              have c52b0 : decide (((rd_T39 t295 x14_4).f2) < 1) = false := decide_eq_false c52
                                              clear c52
                                              by_cases c62 : 0 ≤ ((rd_T39 t295 x14_4).f0)
                                              · rw [if_pos c62] at H
                                                have c62b0 : decide (0 ≤ ((rd_T39 t295 x14_4).f0)) = true := decide_eq_true c62
                                                clear c62
                                                by_cases c63 : ((rd_T39 t295 x14_4).f0) < (t288.length : Int)
                                                · rw [if_pos c63] at H
                                                  have c63b0 : decide (((rd_T39 t295 x14_4).f0) < (t288.length : Int)) = true := decide_eq_true c63
                                                  clear c63
                                                  by_cases c64 : (rd t288 ((rd_T39 t295 x14_4).f0)) ≥ 0
                                                  · rw [if_pos c64] at H
                                                    have c64b0 : decide (0 ≤ (rd t288 ((rd_T39 t295 x14_4).f0))) = true := decide_eq_true c64
                                                    clear c64
                                                    exact absurd (Option.some.inj (H.trans (congrArg some HT.out))) Bool.false_ne_true
                                                  · rw [if_neg c64] at H
                                                    have c64b0 : decide (0 ≤ (rd t288 ((rd_T39 t295 x14_4).f0))) = false := decide_eq_false c64
                                                    clear c64
                                                    by_cases c74 : 0 ≤ ((rd_T39 t295 x14_4).f1)
                                                    · rw [if_pos c74] at H
                                                      have c74b0 : decide (0 ≤ ((rd_T39 t295 x14_4).f1)) = true := decide_eq_true c74
                                                      clear c74
                                                      by_cases c75 : ((rd_T39 t295 x14_4).f1) < (t288.length : Int)
                                                      · rw [if_pos c75] at H
                                                        have c75b0 : decide (((rd_T39 t295 x14_4).f1) < (t288.length : Int)) = true := decide_eq_true c75
                                                        clear c75
                                                        by_cases c76 : (rd t288 ((rd_T39 t295 x14_4).f1)) ≤ 0
                                                        · rw [if_pos c76] at H
                                                          have c76b0 : decide ((rd t288 ((rd_T39 t295 x14_4).f1)) ≤ 0) = true := decide_eq_true c76
                                                          clear c76
                                                          exact absurd (Option.some.inj (H.trans (congrArg some HT.out))) Bool.false_ne_true
                                                        · rw [if_neg c76] at H
                                                          have c76b0 : decide ((rd t288 ((rd_T39 t295 x14_4).f1)) ≤ 0) = false := decide_eq_false c76
                                                          clear c76
                                                          have H' := Aside0.mk H
                                                          clear H
                                                          try go_wp2
                                                          have n0_ := Aside0.mk (Kd.R_drew HO_5.out)
                                                          have n1_ := Aside0.mk (Kd.R_drew HO_8.out)
                                                          have n2_ := Aside0.mk (below_drew1 HB.out)
                                                          clear HO_5
                                                          clear HO_8
                                                          clear HB
                                                          have HO_5 := n0_
                                                          have HO_8 := n1_
                                                          have HB := n2_
                                                          clear n0_ n1_ n2_
                                                          have q87 : (x14_4 : Int) ≤ ((t295.length : Int) : Int) := of_decide_eq_true (by first | (with_reducible assumption) | assumption)
                                                          obtain ⟨i087, hi087, _, hsz87, _⟩ := info_parts info39
                                                          have hroom87 : t295.length ≤ co14 := (Kd.R_reads' HO_8.out).2.1
                                                          have hC87 : Kd.C k39 _ Ao14 t295.length t295 := (Kd.R_reads' HO_8.out).2.2
                                                          have hcut87 := cut_to (P := Try.prog) 23 39 .i64 Try.underlying23 hi087 Ao14 t295.length co14 x14_4 (of_decide_eq_true (by first | (with_reducible assumption) | assumption)) q87 hroom87
                                                          have hr87 := Kd.C_take (m := (x14_4 : Int).toNat) hC87 (by omega)
                                                          have hy87 : y306.length = (x14_4 : Int).toNat := (by rw [Ny306.out, List.length_take]; omega)
                                                          rw [← Ny306.out] at hr87
                                                          rw [← hy87] at hcut87
                                                          have HR309 := Aside0.mk hr87
                                                          have HC309 := Aside0.mk (show y306.length ≤ co14 from by omega)
                                                          clear hr87 hC87 hroom87 hi087 hsz87
                                                          have KY87 := Aside0.mk hy87
                                                          clear hy87
                                                          have KL87 := Aside0.mk (show (x14_4 : Int).toNat ≤ t295.length from by omega)
                                                          replace q87 := eq_true q87
                                                          have q88 : ((ji36) : Int) ≤ ((t295.length : Int) : Int) := of_decide_eq_true (by first | (with_reducible assumption) | assumption)
                                                          obtain ⟨i088, hi088, _, hsz88, _⟩ := info_parts info39
                                                          have hroom88 : t295.length ≤ co14 := (Kd.R_reads' HO_8.out).2.1
                                                          have hC88 : Kd.C k39 _ Ao14 t295.length t295 := (Kd.R_reads' HO_8.out).2.2
                                                          have q088 : (0 : Int) ≤ ((ji36) : Int) := of_decide_eq_true (by first | (with_reducible assumption) | assumption)
                                                          have hcut88 := cut_from (P := Try.prog) 23 39 .i64 Try.underlying23 hi088 3 hsz88 Ao14 t295.length co14 (ji36) q088 q88
                                                          have hr88 := Kd.C_drop (m := ((ji36) : Int).toNat) (c := co14) hC88 (by omega) hroom88
                                                          obtain ⟨A88, hA88⟩ : ∃ A_, A_ = (if co14 = ((ji36) : Int).toNat then Ao14 else (Ao14 : Option Addr).map (·.add (((ji36) : Int).toNat * 3))) := ⟨_, rfl⟩
                                                          obtain ⟨c88, hc88⟩ : ∃ c_, c_ = co14 - ((ji36) : Int).toNat := ⟨_, rfl⟩
                                                          have hy88 : y313.length = t295.length - ((ji36) : Int).toNat := (by rw [Ny313.out, List.length_drop] <;> omega)
                                                          rw [show (t295).drop ((ji36) : Int).toNat = y313 from Ny313.out.symm] at hr88
                                                          replace hr88 : Kd.C k39 _ A88 y313.length y313 := (by rw [hA88]; exact hr88)
                                                          rw [← hy88, ← hA88, ← hc88] at hcut88
                                                          have HR316 := Aside0.mk hr88
                                                          have HC316 := Aside0.mk (show y313.length ≤ c88 from by rw [hy88, hc88]; exact Nat.sub_le_sub_right hroom88 _)
                                                          clear hr88 hC88 hroom88 hi088 hsz88 hc88
                                                          have KY88 := Aside0.mk hy88
                                                          have KA88 := Aside0.mk hA88
                                                          clear hy88 hA88
                                                          have KL88 := Aside0.mk (show ((ji36) : Int).toNat ≤ t295.length from by omega)
                                                          replace q88 := eq_true q88
                                                          refine start_ (n := 11) (S := fun w' => True) (ds := []) #[false, false, false, false, false, false, false, false, false, false, false] (by kernel_rfl) rfl rfl trivial (fun hHeld => ?_); refine with_tabW laws_FnPayments.tab20 laws_FnPayments.bits20 (fun HT_ HW_ => ?_)
                                                          generalize wr.drew = w86 at HO_5 HO_8 HB HR309 HR316 hHeld ⊢
                                                          refine pure_ (i := 1) (N := some 101) (v := ?_) (a' := ?_) #[false, true, false, false, false, false, false, false, false, false, false] rfl rfl (any_of HT_.out (by kernel_rfl)) (fun _ _ _ h => h) (Or.inl ⟨by rfl, ?_⟩) ?_ ?_
                                                          rotate_left
                                                          · intro w'
                                                            go_simp
                                                            with_reducible rfl
                                                          rotate_left
                                                          · simp only [Act.put, List.setIfInBounds_toArray, List.set_cons_zero, List.set_cons_succ, i64_w, i32_w]
                                                            rfl
                                                          refine pure_ (i := 2) (N := some 102) (v := ?_) (a' := ?_) #[false, true, true, false, false, false, false, false, false, false, false] rfl rfl (any_of HT_.out (by kernel_rfl)) (fun _ _ _ h => h) (Or.inl ⟨by rfl, ?_⟩) ?_ ?_
                                                          rotate_left
                                                          · intro w'
                                                            go_simp
                                                            with_reducible rfl
                                                          rotate_left
                                                          · simp only [Act.put, List.setIfInBounds_toArray, List.set_cons_zero, List.set_cons_succ, i64_w, i32_w]
                                                            rfl
                                                          refine pure_ (i := 3) (N := some 103) (v := ?_) (a' := ?_) #[false, true, true, true, false, false, false, false, false, false, false] rfl rfl (any_of HT_.out (by kernel_rfl)) (fun _ _ _ h => h) (Or.inl ⟨by rfl, ?_⟩) ?_ ?_
                                                          rotate_left
                                                          · intro w'
                                                            go_simp
                                                            with_reducible rfl
                                                          rotate_left
                                                          · simp only [Act.put, List.setIfInBounds_toArray, List.set_cons_zero, List.set_cons_succ, i64_w, i32_w]
                                                            rfl
                                                          refine pure_ (i := 5) (N := some 105) (v := ?_) (a' := ?_) #[false, true, true, true, false, true, false, false, false, false, false] rfl rfl (any_of HT_.out (by kernel_rfl)) (fun _ _ _ h => h) (Or.inl ⟨by rfl, ?_⟩) ?_ ?_
                                                          rotate_left
                                                          · intro w'
                                                            go_simp
                                                            with_reducible rfl
                                                          rotate_left
                                                          · simp only [Act.put, List.setIfInBounds_toArray, List.set_cons_zero, List.set_cons_succ, i64_w, i32_w]
                                                            rfl
                                                          refine pure_ (i := 6) (N := some 106) (v := ?_) (a' := ?_) #[false, true, true, true, false, true, true, false, false, false, false] rfl rfl (any_of HT_.out (by kernel_rfl)) (fun _ _ _ h => h) (Or.inl ⟨by rfl, ?_⟩) ?_ ?_
                                                          rotate_left
                                                          · intro w'
                                                            go_simp
                                                            with_reducible rfl
                                                          rotate_left
                                                          · simp only [Act.put, List.setIfInBounds_toArray, List.set_cons_zero, List.set_cons_succ, i64_w, i32_w]
                                                            rfl
                                                          refine pure_ (i := 7) (N := some 107) (v := ?_) (a' := ?_) #[false, true, true, true, false, true, true, true, false, false, false] rfl rfl (any_of HT_.out (by kernel_rfl)) (fun _ _ _ h => h) (Or.inl ⟨by rfl, ?_⟩) ?_ ?_
                                                          rotate_left
                                                          · intro w'
                                                            go_simp
                                                            with_reducible rfl
                                                          rotate_left
                                                          · simp only [Act.put, List.setIfInBounds_toArray, List.set_cons_zero, List.set_cons_succ, i64_w, i32_w]
                                                            rfl
                                                          refine pure_ (i := 8) (N := some 108) (v := ?_) (a' := ?_) #[false, true, true, true, false, true, true, true, true, false, false] rfl rfl (any_of HT_.out (by kernel_rfl)) (fun _ _ _ h => h) (Or.inl ⟨by rfl, ?_⟩) ?_ ?_
                                                          rotate_left
                                                          · intro w'
                                                            go_simp
                                                            with_reducible rfl
                                                          rotate_left
                                                          · simp only [Act.put, List.setIfInBounds_toArray, List.set_cons_zero, List.set_cons_succ, i64_w, i32_w]
                                                            rfl
                                                          refine one_ (i := 0) (N := some 100) #[true, true, true, true, false, true, true, true, true, false, false] rfl rfl (one_of HT_.out (by kernel_rfl)) (by decide) (fun K hK => ?_)
                                                          refine Kd.R_lit_step k39 _ 39 ?hg (N := 100) ?hd (xs := ([] : List (S39))) (inner := []) (ok := fun _ => True) (okp := fun _ => True) ?hr ?hp (fun _ hk => hk) trivial (Below.refl _ _) (Nat.le_refl _) (by simp) ?_; (case hd => rfl); (case hg => rfl); (case hr => first | (go_simp; done) | (go_simp; rfl)); (case hp => exact (Reps.none _ _))
                                                          intro v304 w89 ho90 hb hg_ hnew_
                                                          clear hg_ hnew_
                                                          (first | rw [← Ny303.out] at ho90 | (simp only [Int.reduceToNat] at ho90; rw [← Ny303.out] at ho90))
                                                          have n0_ := Aside0.mk (Kd.R_below (by (with_reducible repeat (first | apply Kd.R_alloc | apply Kd.R_drewN | apply Kd.R_drew)); exact HO_5.out) hb)
                                                          have n1_ := Aside0.mk (Kd.R_elder' (by (with_reducible repeat (first | apply Kd.R_alloc | apply Kd.R_drewN | apply Kd.R_drew)); exact HO_8.out) (Kd.R_base ho90) hb)
                                                          have n2_ := Aside0.mk (Kd.R_lower (Kd.R_new' ho90 (Kd.R_lt (by (with_reducible repeat (first | apply Kd.R_alloc | apply Kd.R_drewN | apply Kd.R_drew)); exact HO_8.out))) (below_size (by repeat (first | (with_reducible first | exact HB.out | apply below_alloc | apply pw_below_drewN | apply below_drew1) | exact HB.out))))
                                                          have n3_ := Aside0.mk (Kd.C_below (by repeat (first | (with_reducible exact HR309.out) | (with_reducible refine Kd.C_alloc ?_ _) | (with_reducible refine Kd.C_drewN ?_ _) | (with_reducible refine Kd.C_drew ?_) | exact HR309.out)) hb)
                                                          have n4_ := Aside0.mk (Kd.C_below (by repeat (first | (with_reducible exact HR316.out) | (with_reducible refine Kd.C_alloc ?_ _) | (with_reducible refine Kd.C_drewN ?_ _) | (with_reducible refine Kd.C_drew ?_) | exact HR316.out)) hb)
                                                          have n5_ := Aside0.mk (below_step (by repeat (first | (with_reducible first | exact HB.out | apply below_alloc | apply pw_below_drewN | apply below_drew1) | exact HB.out)) hb)
                                                          clear HO_5
                                                          clear HO_8
                                                          clear HR309
                                                          clear HR316
                                                          clear HB
                                                          have HO_5 := n0_
                                                          have HO_8 := n1_
                                                          have HO305 := n2_
                                                          have HR309 := n3_
                                                          have HR316 := n4_
                                                          have HB := n5_
                                                          clear n0_ n1_ n2_ n3_ n4_ n5_
                                                          clear hb ho90
                                                          refine hK.out _ _ trivial (fun hHeld => ?_)
                                                          clear hK K
                                                          refine norm_ (a' := ?_) ?_ ?_
                                                          rotate_left
                                                          · show Act.put _ (some 100) _ = _
                                                            simp only [Act.put, List.setIfInBounds_toArray, List.set_cons_zero, List.set_cons_succ, i64_w, i32_w]
                                                            rfl
                                                          refine one_ (i := 4) (N := some 104) #[true, true, true, true, true, true, true, true, true, false, false] rfl rfl (one_of HT_.out (by kernel_rfl)) (by decide) (fun K hK => ?_)
                                                          refine Kd.R_append_rows_step k39 (w0 := w) w.heap.size (by rfl) (.tmp 100) (.tmp 103) 23 39 (.agg #[(.int .i8 0), (.int .i8 0), (.int .i64 0)]) 16 rfl Try.underlying23 info39 rfl (by decide) (by omega) v304 y303 y306 _ _ _ (fun k_ => some k_ ≠ (.slice Ao14 t295.length co14 : Value).ownBlock) (fun _ => False) rfl rfl ?aO ?aR (fun _ _ h => h) (fun _ h => h.elim) ?aF ?aB ?aS ?aL ?_
                                                          (case aR => repeat (first | exact (by repeat (first | (with_reducible exact HR309.out) | (with_reducible refine Kd.C_alloc ?_ _) | (with_reducible refine Kd.C_drewN ?_ _) | (with_reducible refine Kd.C_drew ?_) | exact HR309.out)) | (with_reducible refine Kd.C_alloc ?_ _) | (with_reducible refine Kd.C_drewN ?_ _) | (with_reducible refine Kd.C_drew ?_)))
                                                          (case aB => exact (by repeat (first | (with_reducible first | exact HB.out | apply below_alloc | apply pw_below_drewN | apply below_drew1) | exact HB.out)))
                                                          (case aF => exact (fun k_ hk => Kd.fresh' (Kd.R_lt (by (with_reducible repeat (first | apply Kd.R_alloc | apply Kd.R_drewN | apply Kd.R_drew)); exact HO_8.out)) k_ hk))
                                                          (case aO => exact (by (with_reducible repeat (first | apply Kd.R_alloc | apply Kd.R_drewN | apply Kd.R_drew)); exact Kd.R_mono HO305.out (fun _ hk => hk.2)))
                                                          (case aS => exact (below_size (by repeat (first | (with_reducible first | exact HB.out | apply below_alloc | apply pw_below_drewN | apply below_drew1) | exact HB.out))))
                                                          (case aL => have := LMc35.out; omega)
                                                          intro v311 w91 ho hb hg hat
                                                          rw [← Ny310.out] at ho
                                                          have n0_ := Aside0.mk (Kd.R_over' (by (with_reducible repeat (first | apply Kd.R_alloc | apply Kd.R_drewN | apply Kd.R_drew)); exact HO_5.out) (Kd.R_typed (by (with_reducible repeat (first | apply Kd.R_alloc | apply Kd.R_drewN | apply Kd.R_drew)); exact HO305.out)) (by decide) hg)
                                                          have n1_ := Aside0.mk (Kd.R_after (ok := (fun _ => True)) (by (with_reducible repeat (first | apply Kd.R_alloc | apply Kd.R_drewN | apply Kd.R_drew)); exact HO_8.out) hg hat)
                                                          have n2_ := Aside0.mk (hb)
                                                          have n3_ := Aside0.mk ((show Kd.C k39 w91 Ao14 y306.length y306 from by rw [Ny306.out]; exact Kd.C_take (m := (x14_4 : Int).toNat) ((Kd.R_reads' (Kd.R_after (ok := (fun _ => True)) (by (with_reducible repeat (first | apply Kd.R_alloc | apply Kd.R_drewN | apply Kd.R_drew)); exact HO_8.out) hg hat)).2.2) KL87.out))
                                                          have n4_ := Aside0.mk ((show Kd.C k39 w91 A88 y313.length y313 from by rw [Ny313.out, KA88.out]; exact Kd.C_drop (m := ((ji36) : Int).toNat) (c := co14) ((Kd.R_reads' (Kd.R_after (ok := (fun _ => True)) (by (with_reducible repeat (first | apply Kd.R_alloc | apply Kd.R_drewN | apply Kd.R_drew)); exact HO_8.out) hg hat)).2.2) KL88.out ((Kd.R_reads' (Kd.R_after (ok := (fun _ => True)) (by (with_reducible repeat (first | apply Kd.R_alloc | apply Kd.R_drewN | apply Kd.R_drew)); exact HO_8.out) hg hat)).2.1)))
                                                          have n5_ := Aside0.mk (ho)
                                                          clear HO_5
                                                          clear HO_8
                                                          clear HB
                                                          clear HR309
                                                          clear HR316
                                                          clear HO305
                                                          have HO_5 := n0_
                                                          have HO_8 := n1_
                                                          have HB := n2_
                                                          have HR309 := n3_
                                                          have HR316 := n4_
                                                          have HO312 := n5_
                                                          clear n0_ n1_ n2_ n3_ n4_ n5_
                                                          clear ho hb hg hat
                                                          refine hK.out _ _ trivial (fun hHeld => ?_)
                                                          clear hK K
                                                          refine norm_ (a' := ?_) ?_ ?_
                                                          rotate_left
                                                          · show Act.put _ (some 104) _ = _
                                                            simp only [Act.put, List.setIfInBounds_toArray, List.set_cons_zero, List.set_cons_succ, i64_w, i32_w]
                                                            rfl
                                                          refine one_ (i := 9) (N := some 109) #[true, true, true, true, true, true, true, true, true, true, false] rfl rfl (one_of HT_.out (by kernel_rfl)) (by decide) (fun K hK => ?_)
                                                          refine Kd.R_append_rows_step k39 (w0 := w) w.heap.size (by rfl) (.tmp 104) (.tmp 108) 23 39 (.agg #[(.int .i8 0), (.int .i8 0), (.int .i64 0)]) 16 rfl Try.underlying23 info39 rfl (by decide) (by omega) v311 y310 y313 _ _ _ (fun k_ => some k_ ≠ (.slice Ao14 t295.length co14 : Value).ownBlock) (fun _ => False) rfl rfl ?aO ?aR (fun _ _ h => h) (fun _ h => h.elim) ?aF ?aB ?aS ?aL ?_
                                                          (case aR => repeat (first | exact (by repeat (first | (with_reducible exact HR316.out) | (with_reducible refine Kd.C_alloc ?_ _) | (with_reducible refine Kd.C_drewN ?_ _) | (with_reducible refine Kd.C_drew ?_) | exact HR316.out)) | (with_reducible refine Kd.C_alloc ?_ _) | (with_reducible refine Kd.C_drewN ?_ _) | (with_reducible refine Kd.C_drew ?_)))
                                                          (case aB => exact (by repeat (first | (with_reducible first | exact HB.out | apply below_alloc | apply pw_below_drewN | apply below_drew1) | exact HB.out)))
                                                          (case aF => exact (fun k_ hk => Kd.fresh' (Kd.R_lt (by (with_reducible repeat (first | apply Kd.R_alloc | apply Kd.R_drewN | apply Kd.R_drew)); exact HO_8.out)) k_ hk))
                                                          (case aO => exact (by (with_reducible repeat (first | apply Kd.R_alloc | apply Kd.R_drewN | apply Kd.R_drew)); exact HO312.out))
                                                          (case aS => exact (below_size (by repeat (first | (with_reducible first | exact HB.out | apply below_alloc | apply pw_below_drewN | apply below_drew1) | exact HB.out))))
                                                          (case aL => have := LMc39.out; omega)
                                                          intro v318 w92 ho hb hg hat
                                                          rw [← Ny317.out] at ho
                                                          have n0_ := Aside0.mk (Kd.R_over' (by (with_reducible repeat (first | apply Kd.R_alloc | apply Kd.R_drewN | apply Kd.R_drew)); exact HO_5.out) (Kd.R_typed (by (with_reducible repeat (first | apply Kd.R_alloc | apply Kd.R_drewN | apply Kd.R_drew)); exact HO312.out)) (by decide) hg)
                                                          have n1_ := Aside0.mk (Kd.R_after (ok := (fun _ => True)) (by (with_reducible repeat (first | apply Kd.R_alloc | apply Kd.R_drewN | apply Kd.R_drew)); exact HO_8.out) hg hat)
                                                          have n2_ := Aside0.mk (hb)
                                                          have n3_ := Aside0.mk ((show Kd.C k39 w92 Ao14 y306.length y306 from by rw [Ny306.out]; exact Kd.C_take (m := (x14_4 : Int).toNat) ((Kd.R_reads' (Kd.R_after (ok := (fun _ => True)) (by (with_reducible repeat (first | apply Kd.R_alloc | apply Kd.R_drewN | apply Kd.R_drew)); exact HO_8.out) hg hat)).2.2) KL87.out))
                                                          have n4_ := Aside0.mk ((show Kd.C k39 w92 A88 y313.length y313 from by rw [Ny313.out, KA88.out]; exact Kd.C_drop (m := ((ji36) : Int).toNat) (c := co14) ((Kd.R_reads' (Kd.R_after (ok := (fun _ => True)) (by (with_reducible repeat (first | apply Kd.R_alloc | apply Kd.R_drewN | apply Kd.R_drew)); exact HO_8.out) hg hat)).2.2) KL88.out ((Kd.R_reads' (Kd.R_after (ok := (fun _ => True)) (by (with_reducible repeat (first | apply Kd.R_alloc | apply Kd.R_drewN | apply Kd.R_drew)); exact HO_8.out) hg hat)).2.1)))
                                                          have n5_ := Aside0.mk (ho)
                                                          clear HO_5
                                                          clear HO_8
                                                          clear HB
                                                          clear HR309
                                                          clear HR316
                                                          clear HO312
                                                          have HO_5 := n0_
                                                          have HO_8 := n1_
                                                          have HB := n2_
                                                          have HR309 := n3_
                                                          have HR316 := n4_
                                                          have HO319 := n5_
                                                          clear n0_ n1_ n2_ n3_ n4_ n5_
                                                          clear ho hb hg hat
                                                          refine hK.out _ _ trivial (fun hHeld => ?_)
                                                          clear hK K
                                                          refine norm_ (a' := ?_) ?_ ?_
                                                          rotate_left
                                                          · show Act.put _ (some 109) _ = _
                                                            simp only [Act.put, List.setIfInBounds_toArray, List.set_cons_zero, List.set_cons_succ, i64_w, i32_w]
                                                            rfl
                                                          refine pure_ (i := 10) (N := some 15) (v := ?_) (a' := ?_) #[true, true, true, true, true, true, true, true, true, true, true] rfl rfl (any_of HT_.out (by kernel_rfl)) (fun _ _ _ h => h) (Or.inl ⟨by rfl, ?_⟩) ?_ ?_
                                                          rotate_left
                                                          · intro w'
                                                            go_simp
                                                            with_reducible rfl
                                                          rotate_left
                                                          · simp only [Act.put, List.setIfInBounds_toArray, List.set_cons_zero, List.set_cons_succ, i64_w, i32_w]
                                                            rfl
                                                          refine done_ (done_of HT_.out (by kernel_rfl)) ?_
                                                          obtain ⟨Ao93, co93, eo93⟩ := Kd.R_slice HO319.out
                                                          subst eo93
                                                          try go_wp2_with (first | ((with_reducible refine gate_callee (f := 15) rfl ?_); refine goesL_ (some 113) rfl rfl Try.func15 (by kernel_rfl) rfl #[.slice Ao11 t288.length co11, .slice Ao93 y317.length co93] rfl (by (try simp only [List.map_toArray, List.map_cons, List.map_nil]); first | done | rfl | (simp only [List.length_drop, List.length_take]; rfl)) ?_; (with_reducible refine (impl_CheckPayments.calls _ _ t288 _ _ y317 false t321 _ ?side1 ?side2 ?side3 ?side4 A40.out).mono ?_); (case side1 => repeat (first | exact (Kd.R_reads' HO_5.out).2.2 | (with_reducible refine Kd.C_alloc ?_ _) | (with_reducible refine Kd.C_drewN ?_ _) | (with_reducible refine Kd.C_drew ?_))); (case side2 => exact (Kd.R_reads' HO_5.out).2.1); (case side3 => repeat (first | exact (Kd.R_reads' HO319.out).2.2 | (with_reducible refine Kd.C_alloc ?_ _) | (with_reducible refine Kd.C_drewN ?_ _) | (with_reducible refine Kd.C_drew ?_))); (case side4 => exact (Kd.R_reads' HO319.out).2.1); rintro e w94 ⟨rfl, hb⟩; refine ⟨_, rfl, ?_⟩; have n0_ := Aside0.mk (Kd.R_below (by (with_reducible repeat (first | apply Kd.R_alloc | apply Kd.R_drewN | apply Kd.R_drew)); exact HO_5.out) hb); have n1_ := Aside0.mk (Kd.R_below (by (with_reducible repeat (first | apply Kd.R_alloc | apply Kd.R_drewN | apply Kd.R_drew)); exact HO_8.out) hb); have n2_ := Aside0.mk (Kd.R_below (by (with_reducible repeat (first | apply Kd.R_alloc | apply Kd.R_drewN | apply Kd.R_drew)); exact HO319.out) hb); have n3_ := Aside0.mk (Kd.C_below (by repeat (first | (with_reducible exact HR309.out) | (with_reducible refine Kd.C_alloc ?_ _) | (with_reducible refine Kd.C_drewN ?_ _) | (with_reducible refine Kd.C_drew ?_) | exact HR309.out)) hb); have n4_ := Aside0.mk (Kd.C_below (by repeat (first | (with_reducible exact HR316.out) | (with_reducible refine Kd.C_alloc ?_ _) | (with_reducible refine Kd.C_drewN ?_ _) | (with_reducible refine Kd.C_drew ?_) | exact HR316.out)) hb); have n5_ := Aside0.mk (below_step (by repeat (first | (with_reducible first | exact HB.out | apply below_alloc | apply pw_below_drewN | apply below_drew1) | exact HB.out)) hb); clear HO_5; clear HO_8; clear HO319; clear HR309; clear HR316; clear HB; have HO_5 := n0_; have HO_8 := n1_; have HO319 := n2_; have HR309 := n3_; have HR316 := n4_; have HB := n5_; clear n0_ n1_ n2_ n3_ n4_ n5_; (try clear hb); (try clear hb2); (try clear hk); (try clear hi); have p322 : 0 ≤ (x14_4 : Int) := of_decide_eq_true (by first | (with_reducible assumption) | assumption); have q322 : x14_4 < (t295.length : Int) := of_decide_eq_true (by first | (with_reducible assumption) | assumption); obtain ⟨ad322, e322, hx322_0, hx322_1, hx322_2⟩ := at_T39 (Kd.R_reads' HO_8.out).2.2 x14_4 p322 q322; cases e322; replace p322 := eq_true p322; replace q322 := eq_true q322; have p323 : 0 ≤ (x14_4 : Int) := of_decide_eq_true (by first | (with_reducible assumption) | assumption); have q323 : x14_4 < (t295.length : Int) := of_decide_eq_true (by first | (with_reducible assumption) | assumption); obtain ⟨ad323, e323, hx323_0, hx323_1, hx323_2⟩ := at_T39 (Kd.R_reads' HO_8.out).2.2 x14_4 p323 q323; obtain rfl : ad322 = ad323 := (by injection e323); replace p323 := eq_true p323; replace q323 := eq_true q323; have p324 : 0 ≤ (((rd_T39 t295 x14_4).f0) : Int) := of_decide_eq_true (by first | (with_reducible assumption) | assumption); have q324 : ((rd_T39 t295 x14_4).f0) < (t288.length : Int) := of_decide_eq_true (by first | (with_reducible assumption) | assumption); obtain ⟨ad324, e324, hx324_0⟩ := Kd.at_int (Kd.R_reads' HO_5.out).2.2 ((rd_T39 t295 x14_4).f0) p324 q324; cases e324; replace p324 := eq_true p324; replace q324 := eq_true q324; have p325 : 0 ≤ (x14_4 : Int) := of_decide_eq_true (by first | (with_reducible assumption) | assumption); have q325 : x14_4 < (t295.length : Int) := of_decide_eq_true (by first | (with_reducible assumption) | assumption); obtain ⟨ad325, e325, hx325_0, hx325_1, hx325_2⟩ := at_T39 (Kd.R_reads' HO_8.out).2.2 x14_4 p325 q325; obtain rfl : ad322 = ad325 := (by injection e325); replace p325 := eq_true p325; replace q325 := eq_true q325; have p326 : 0 ≤ (((rd_T39 t295 x14_4).f1) : Int) := of_decide_eq_true (by first | (with_reducible assumption) | assumption); have q326 : ((rd_T39 t295 x14_4).f1) < (t288.length : Int) := of_decide_eq_true (by first | (with_reducible assumption) | assumption); obtain ⟨ad326, e326, hx326_0⟩ := Kd.at_int (Kd.R_reads' HO_5.out).2.2 ((rd_T39 t295 x14_4).f1) p326 q326; obtain rfl : ad324 = ad326 := (by injection e326); replace p326 := eq_true p326; replace q326 := eq_true q326))
                                                          go_roundg k4
                                                          case measure => have := HJ8.out; have := HK2.out; have := HJ27.out; have := HK4.out; omega
                                                          case rel => exact ⟨(ji36), (by first | rfl | (simp; done) | (simp only [← hji36] <;> (first | rfl | simp)) | (simp [*]; done)), H', ⟨by have := HJ8.out; have := HK2.out; have := HJ27.out; have := HK4.out; omega⟩, ⟨by (with_reducible repeat (first | apply Kd.R_alloc | apply Kd.R_drewN | apply Kd.R_drew)); exact HO_5.out⟩, ⟨by (with_reducible repeat (first | apply Kd.R_alloc | apply Kd.R_drewN | apply Kd.R_drew)); exact Kd.R_mono HO_8.out (fun _ hk => trivial)⟩, ⟨by repeat (first | (with_reducible first | exact HB.out | apply below_alloc | apply pw_below_drewN | apply below_drew1) | exact HB.out)⟩⟩
                                                      · rw [if_neg c75] at H
                                                        exact absurd H (by simp)
                                                    · rw [if_neg c74] at H
                                                      exact absurd H (by simp)
                                                · rw [if_neg c63] at H
                                                  exact absurd H (by simp)
                                              · rw [if_neg c62] at H
                                                exact absurd H (by simp)
                                        · rw [if_neg c41] at H
                                          have c41b0 : (t321 == 0) = false := beq_eq_false_iff_ne.mpr c41
                                          have c41b1 : (t321 != 0) = true := bne_iff_ne.mpr c41
                                          exact absurd (Option.some.inj (H.trans (congrArg some HT.out))) Bool.false_ne_true
                                      · rw [if_neg c39] at H
                                        exact absurd H (by simp)
                                    · rw [if_neg c38] at H
                                      exact absurd H (by simp)
                                  · rw [if_neg c37] at H
                                    exact absurd H (by simp)
                                · rw [if_neg c35] at H
                                  exact absurd H (by simp)
                              · rw [if_neg c34] at H
                                exact absurd H (by simp)
                            · rw [if_neg c33] at H
                              exact absurd H (by simp)
                          · rw [if_neg c32] at H
                            have c32b0 : decide (x14_4 < (t295.length : Int)) = false := decide_eq_false c32
                            clear c32
                            replace H := Option.bind_eq_some_iff.mp H
                            obtain ⟨t327, A1040, H⟩ := H
                            replace H : ((impl_BreakageOf.f k4 t327).bind fun bt330 => ((spec_BreakageOf.f k4 t327).bind fun bt332 => (laws_FnPayments.l2 k4 t327 bt330.1 bt330.2 bt332.1 bt332.2 0 0 0))) = some r := H
                            have A104 := Aside0.mk A1040
                            clear A1040
                            replace H := Option.bind_eq_some_iff.mp H
                            obtain ⟨⟨t330, t331⟩, A1050, H⟩ := H
                            replace H : ((spec_BreakageOf.f k4 t327).bind fun bt332 => (laws_FnPayments.l2 k4 t327 t330 t331 bt332.1 bt332.2 0 0 0)) = some r := H
                            have A105 := Aside0.mk A1050
                            clear A1050
                            replace H := Option.bind_eq_some_iff.mp H
                            obtain ⟨⟨t332, t333⟩, A1060, H⟩ := H
                            replace H : (laws_FnPayments.l2 k4 t327 t330 t331 t332 t333 0 0 0) = some r := H
                            have A106 := Aside0.mk A1060
                            clear A1060
                            have H' := Aside0.mk H
                            clear H
                            go_wp2_with (first | ((with_reducible refine gate_callee (f := 17) rfl ?_); refine goesL_ (some 152) rfl rfl Try.func17 (by kernel_rfl) rfl #[.slice A1 l1.length c1] rfl (by (try simp only [List.map_toArray, List.map_cons, List.map_nil]); first | done | rfl | (simp only [List.length_drop, List.length_take]; rfl)) ?_; (with_reducible refine (spec_A2Ledger.calls k4 _ _ l1 t327 _ ?side1 ?side2 A104.out).mono ?_); (case side1 => repeat (first | exact (Kd.C_below HR1.out HB.out) | (with_reducible refine Kd.C_alloc ?_ _) | (with_reducible refine Kd.C_drewN ?_ _) | (with_reducible refine Kd.C_drew ?_))); (case side2 => exact HC1.out); rintro e w107 ⟨v328, rfl, ho0, hb⟩; refine ⟨_, rfl, ?_⟩; have n0_ := Aside0.mk (Kd.R_below (by (with_reducible repeat (first | apply Kd.R_alloc | apply Kd.R_drewN | apply Kd.R_drew)); exact HO_5.out) hb); have n1_ := Aside0.mk (Kd.R_below (by (with_reducible repeat (first | apply Kd.R_alloc | apply Kd.R_drewN | apply Kd.R_drew)); exact HO_8.out) hb); have n2_ := Aside0.mk (Kd.R_lower ho0 (below_size (by repeat (first | (with_reducible first | exact HB.out | apply below_alloc | apply pw_below_drewN | apply below_drew1) | exact HB.out)))); have n3_ := Aside0.mk (below_step (by repeat (first | (with_reducible first | exact HB.out | apply below_alloc | apply pw_below_drewN | apply below_drew1) | exact HB.out)) hb); clear HO_5; clear HO_8; clear HB; have HO_5 := n0_; have HO_8 := n1_; have HO329 := n2_; have HB := n3_; clear n0_ n1_ n2_ n3_; (try clear hb); (try clear hb2); (try clear hk); (try clear hi); (try clear ho0); obtain ⟨Ao108, co108, eo108⟩ := Kd.R_slice HO329.out; subst eo108) | ((with_reducible refine gate_callee (f := 18) rfl ?_); refine goesL_ (some 155) rfl rfl Try.func18 (by kernel_rfl) rfl #[.slice Ao108 t327.length co108] rfl (by (try simp only [List.map_toArray, List.map_cons, List.map_nil]); first | done | rfl | (simp only [List.length_drop, List.length_take]; rfl)) ?_; (with_reducible refine (impl_BreakageOf.calls k4 _ _ t327 t330 t331 _ ?side1 ?side2 A105.out).mono ?_); (case side1 => repeat (first | exact (Kd.R_reads' HO329.out).2.2 | (with_reducible refine Kd.C_alloc ?_ _) | (with_reducible refine Kd.C_drewN ?_ _) | (with_reducible refine Kd.C_drew ?_))); (case side2 => exact (Kd.R_reads' HO329.out).2.1); rintro e w109 ⟨rfl, hb⟩; refine ⟨_, rfl, ?_⟩; have n0_ := Aside0.mk (Kd.R_below (by (with_reducible repeat (first | apply Kd.R_alloc | apply Kd.R_drewN | apply Kd.R_drew)); exact HO_5.out) hb); have n1_ := Aside0.mk (Kd.R_below (by (with_reducible repeat (first | apply Kd.R_alloc | apply Kd.R_drewN | apply Kd.R_drew)); exact HO_8.out) hb); have n2_ := Aside0.mk (Kd.R_below (by (with_reducible repeat (first | apply Kd.R_alloc | apply Kd.R_drewN | apply Kd.R_drew)); exact HO329.out) hb); have n3_ := Aside0.mk (below_step (by repeat (first | (with_reducible first | exact HB.out | apply below_alloc | apply pw_below_drewN | apply below_drew1) | exact HB.out)) hb); clear HO_5; clear HO_8; clear HO329; clear HB; have HO_5 := n0_; have HO_8 := n1_; have HO329 := n2_; have HB := n3_; clear n0_ n1_ n2_ n3_; (try clear hb); (try clear hb2); (try clear hk); (try clear hi)) | ((with_reducible refine gate_callee (f := 19) rfl ?_); refine goesL_ (some 160) rfl rfl Try.func19 (by kernel_rfl) rfl #[.slice Ao108 t327.length co108] rfl (by (try simp only [List.map_toArray, List.map_cons, List.map_nil]); first | done | rfl | (simp only [List.length_drop, List.length_take]; rfl)) ?_; (with_reducible refine (spec_BreakageOf.calls k4 _ _ t327 t332 t333 _ ?side1 ?side2 A106.out).mono ?_); (case side1 => repeat (first | exact (Kd.R_reads' HO329.out).2.2 | (with_reducible refine Kd.C_alloc ?_ _) | (with_reducible refine Kd.C_drewN ?_ _) | (with_reducible refine Kd.C_drew ?_))); (case side2 => exact (Kd.R_reads' HO329.out).2.1); rintro e w' ⟨rfl, ⟨nd, rfl⟩⟩; refine ⟨_, rfl, ?_⟩))
                            go_loopg [23, 24, 25] k4 (fun kq v23 v24 v25 w' => ∃ (x23_5 : Int) (x24_5 : Int) (x25_5 : Int), v23 = .int .i64 x23_5 ∧ v24 = .int .i64 x24_5 ∧ v25 = .int .i64 x25_5 ∧ Aside0 (laws_FnPayments.l2 kq t327 t330 t331 t332 t333 x23_5 x24_5 x25_5 = some r) ∧ Aside0 (kq ≤ k4) ∧ Aside0 (Kd.R k46 46 w' w.heap.size (fun _ => True) (.slice Ao108 t327.length co108) t327) ∧ Aside0 (Below w.heap.size w w'))
                            case atStart => exact ⟨(0), (0), (0), (by first | rfl | (simp; done) | (simp [*]; done)), (by first | rfl | (simp; done) | (simp [*]; done)), (by first | rfl | (simp; done) | (simp [*]; done)), H', ⟨Nat.le_refl _⟩, ⟨by (with_reducible repeat (first | apply Kd.R_alloc | apply Kd.R_drewN | apply Kd.R_drew)); exact HO329.out⟩, ⟨by repeat (first | (with_reducible first | exact HB.out | apply below_alloc | apply pw_below_drewN | apply below_drew1) | exact HB.out)⟩⟩
                            case round => as_aux_lemma =>
                              clear H'
                              try clear c1
                              try clear p2
                              try clear c3
                              try clear p3
                              try clear q3
                              try clear hx3
                              try clear c4
                              try clear c6
                              try clear c7
                              try clear c8
                              try clear q8
                              try clear c9
                              try clear q9
                              try clear c15
                              try clear c17
                              try clear c18
                              try clear c19
                              try clear c32
                              try clear c32b0
                              try clear p32
                              try clear q32
                              try clear hx32
                              try clear c33
                              try clear c34
                              try clear c35
                              try clear c37
                              try clear c38
                              try clear c39
                              try clear c41
                              try clear c41b0
                              try clear c41b1
                              try clear c62
                              try clear c63
                              try clear c74
                              try clear c75
                              try clear c76
                              try clear c76b0
                              try clear q87
                              try clear c88
                              try clear q88
                              try clear q96
                              try clear c97
                              try clear q97
                              try clear hx322_0
                              try clear hx322_1
                              try clear hx322_2
                              try clear hx323_0
                              try clear hx323_1
                              try clear hx323_2
                              try clear hx324_0
                              try clear hx325_0
                              try clear hx325_1
                              try clear hx325_2
                              try clear hx326_0
                              try clear p322
                              try clear p323
                              try clear p324
                              try clear p325
                              try clear p326
                              try clear q088
                              try clear q097
                              try clear q322
                              try clear q323
                              try clear q324
                              try clear q325
                              try clear q326
                              try clear q87
                              try clear q88
                              try clear q96
                              try clear q97
                              obtain ⟨x23_5, x24_5, x25_5, rfl, rfl, rfl, HA, HK5, HO_18, HB⟩ := hrel
                              cases gk with
                              | zero => exact absurd HA.out (by simp [laws_FnPayments.l2])
                              | succ k5 =>
                                have H := HA.out
                                clear HA
                                simp only [laws_FnPayments.l2] at H
                                by_cases c110 : x25_5 < (t327.length : Int)
                                · rw [if_pos c110] at H
                                  have c110b0 : decide (x25_5 < (t327.length : Int)) = true := decide_eq_true c110
                                  clear c110
                                  by_cases c111 : 0 ≤ x25_5
                                  · rw [if_pos c111] at H
                                    have c111b0 : decide (0 ≤ x25_5) = true := decide_eq_true c111
                                    clear c111
                                    by_cases c112 : ((rd_T46 t327 x25_5).f3) = 4
                                    · rw [if_pos c112] at H
                                      have c112b0 : (((rd_T46 t327 x25_5).f3) == 4) = true := beq_iff_eq.mpr c112
                                      have c112b1 : (((rd_T46 t327 x25_5).f3) != 4) = false := bne_eq_false_iff_eq.mpr c112
                                      clear c112
                                      by_cases c113 : ((rd_T46 t327 x25_5).f3) = 3
                                      · rw [if_pos c113] at H
                                        have c113b0 : (((rd_T46 t327 x25_5).f3) == 3) = true := beq_iff_eq.mpr c113
                                        have c113b1 : (((rd_T46 t327 x25_5).f3) != 3) = false := bne_eq_false_iff_eq.mpr c113
                                        clear c113
                                        have H' := Aside0.mk H
                                        clear H
                                        have p334 : 0 ≤ (x25_5 : Int) := of_decide_eq_true (by first | (with_reducible assumption) | assumption)
                                        have q334 : x25_5 < (t327.length : Int) := of_decide_eq_true (by first | (with_reducible assumption) | assumption)
                                        obtain ⟨ad334, e334, hx334_0, hx334_1, hx334_2, hx334_3, hx334_4⟩ := at_T46 (Kd.R_reads' HO_18.out).2.2 x25_5 p334 q334
                                        cases e334
                                        replace p334 := eq_true p334
                                        replace q334 := eq_true q334
                                        have p335 : 0 ≤ (x25_5 : Int) := of_decide_eq_true (by first | (with_reducible assumption) | assumption)
                                        have q335 : x25_5 < (t327.length : Int) := of_decide_eq_true (by first | (with_reducible assumption) | assumption)
                                        obtain ⟨ad335, e335, hx335_0, hx335_1, hx335_2, hx335_3, hx335_4⟩ := at_T46 (Kd.R_reads' HO_18.out).2.2 x25_5 p335 q335
                                        obtain rfl : ad334 = ad335 := (by injection e335)
                                        replace p335 := eq_true p335
                                        replace q335 := eq_true q335
                                        have p336 : 0 ≤ (x25_5 : Int) := of_decide_eq_true (by first | (with_reducible assumption) | assumption)
                                        have q336 : x25_5 < (t327.length : Int) := of_decide_eq_true (by first | (with_reducible assumption) | assumption)
                                        obtain ⟨ad336, e336, hx336_0, hx336_1, hx336_2, hx336_3, hx336_4⟩ := at_T46 (Kd.R_reads' HO_18.out).2.2 x25_5 p336 q336
                                        obtain rfl : ad334 = ad336 := (by injection e336)
                                        replace p336 := eq_true p336
                                        replace q336 := eq_true q336
                                        have p337 : 0 ≤ (x25_5 : Int) := of_decide_eq_true (by first | (with_reducible assumption) | assumption)
                                        have q337 : x25_5 < (t327.length : Int) := of_decide_eq_true (by first | (with_reducible assumption) | assumption)
                                        obtain ⟨ad337, e337, hx337_0, hx337_1, hx337_2, hx337_3, hx337_4⟩ := at_T46 (Kd.R_reads' HO_18.out).2.2 x25_5 p337 q337
                                        obtain rfl : ad334 = ad337 := (by injection e337)
                                        replace p337 := eq_true p337
                                        replace q337 := eq_true q337
                                        go_wp2
                                        go_roundg k5
                                        case measure => have := HJ8.out; have := HK2.out; have := HJ27.out; have := HK4.out; have := HK5.out; omega
                                        case rel => exact ⟨(wrap64 (x23_5 + (wrap64 ((rd_T46 t327 x25_5).f4)))), (wrap64 (x24_5 + (wrap64 ((rd_T46 t327 x25_5).f4)))), (wrap64 (x25_5 + 1)), (by first | rfl | (simp; done) | (simp [*]; done)), (by first | rfl | (simp; done) | (simp [*]; done)), (by first | rfl | (simp; done) | (simp [*]; done)), H', ⟨by have := HJ8.out; have := HK2.out; have := HJ27.out; have := HK4.out; have := HK5.out; omega⟩, ⟨by (with_reducible repeat (first | apply Kd.R_alloc | apply Kd.R_drewN | apply Kd.R_drew)); exact HO_18.out⟩, ⟨by repeat (first | (with_reducible first | exact HB.out | apply below_alloc | apply pw_below_drewN | apply below_drew1) | exact HB.out)⟩⟩
                                      · rw [if_neg c113] at H
                                        have c113b0 : (((rd_T46 t327 x25_5).f3) == 3) = false := beq_eq_false_iff_ne.mpr c113
                                        have c113b1 : (((rd_T46 t327 x25_5).f3) != 3) = true := bne_iff_ne.mpr c113
                                        have H' := Aside0.mk H
                                        clear H
                                        have p334 : 0 ≤ (x25_5 : Int) := of_decide_eq_true (by first | (with_reducible assumption) | assumption)
                                        have q334 : x25_5 < (t327.length : Int) := of_decide_eq_true (by first | (with_reducible assumption) | assumption)
                                        obtain ⟨ad334, e334, hx334_0, hx334_1, hx334_2, hx334_3, hx334_4⟩ := at_T46 (Kd.R_reads' HO_18.out).2.2 x25_5 p334 q334
                                        cases e334
                                        replace p334 := eq_true p334
                                        replace q334 := eq_true q334
                                        have p335 : 0 ≤ (x25_5 : Int) := of_decide_eq_true (by first | (with_reducible assumption) | assumption)
                                        have q335 : x25_5 < (t327.length : Int) := of_decide_eq_true (by first | (with_reducible assumption) | assumption)
                                        obtain ⟨ad335, e335, hx335_0, hx335_1, hx335_2, hx335_3, hx335_4⟩ := at_T46 (Kd.R_reads' HO_18.out).2.2 x25_5 p335 q335
                                        obtain rfl : ad334 = ad335 := (by injection e335)
                                        replace p335 := eq_true p335
                                        replace q335 := eq_true q335
                                        have p336 : 0 ≤ (x25_5 : Int) := of_decide_eq_true (by first | (with_reducible assumption) | assumption)
                                        have q336 : x25_5 < (t327.length : Int) := of_decide_eq_true (by first | (with_reducible assumption) | assumption)
                                        obtain ⟨ad336, e336, hx336_0, hx336_1, hx336_2, hx336_3, hx336_4⟩ := at_T46 (Kd.R_reads' HO_18.out).2.2 x25_5 p336 q336
                                        obtain rfl : ad334 = ad336 := (by injection e336)
                                        replace p336 := eq_true p336
                                        replace q336 := eq_true q336
                                        go_wp2
                                        go_roundg k5
                                        case measure => have := HJ8.out; have := HK2.out; have := HJ27.out; have := HK4.out; have := HK5.out; omega
                                        case rel => exact ⟨(wrap64 (x23_5 + (wrap64 ((rd_T46 t327 x25_5).f4)))), (x24_5), (wrap64 (x25_5 + 1)), (by first | rfl | (simp; done) | (simp [*]; done)), (by first | rfl | (simp; done) | (simp [*]; done)), (by first | rfl | (simp; done) | (simp [*]; done)), H', ⟨by have := HJ8.out; have := HK2.out; have := HJ27.out; have := HK4.out; have := HK5.out; omega⟩, ⟨by (with_reducible repeat (first | apply Kd.R_alloc | apply Kd.R_drewN | apply Kd.R_drew)); exact HO_18.out⟩, ⟨by repeat (first | (with_reducible first | exact HB.out | apply below_alloc | apply pw_below_drewN | apply below_drew1) | exact HB.out)⟩⟩
                                    · rw [if_neg c112] at H
                                      have c112b0 : (((rd_T46 t327 x25_5).f3) == 4) = false := beq_eq_false_iff_ne.mpr c112
                                      have c112b1 : (((rd_T46 t327 x25_5).f3) != 4) = true := bne_iff_ne.mpr c112
                                      by_cases c114 : ((rd_T46 t327 x25_5).f3) = 3
                                      · rw [if_pos c114] at H
                                        have c114b0 : (((rd_T46 t327 x25_5).f3) == 3) = true := beq_iff_eq.mpr c114
                                        have c114b1 : (((rd_T46 t327 x25_5).f3) != 3) = false := bne_eq_false_iff_eq.mpr c114
                                        clear c114
                                        have H' := Aside0.mk H
                                        clear H
                                        have p334 : 0 ≤ (x25_5 : Int) := of_decide_eq_true (by first | (with_reducible assumption) | assumption)
                                        have q334 : x25_5 < (t327.length : Int) := of_decide_eq_true (by first | (with_reducible assumption) | assumption)
                                        obtain ⟨ad334, e334, hx334_0, hx334_1, hx334_2, hx334_3, hx334_4⟩ := at_T46 (Kd.R_reads' HO_18.out).2.2 x25_5 p334 q334
                                        cases e334
                                        replace p334 := eq_true p334
                                        replace q334 := eq_true q334
                                        have p338 : 0 ≤ (x25_5 : Int) := of_decide_eq_true (by first | (with_reducible assumption) | assumption)
                                        have q338 : x25_5 < (t327.length : Int) := of_decide_eq_true (by first | (with_reducible assumption) | assumption)
                                        obtain ⟨ad338, e338, hx338_0, hx338_1, hx338_2, hx338_3, hx338_4⟩ := at_T46 (Kd.R_reads' HO_18.out).2.2 x25_5 p338 q338
                                        obtain rfl : ad334 = ad338 := (by injection e338)
                                        replace p338 := eq_true p338
                                        replace q338 := eq_true q338
                                        have p339 : 0 ≤ (x25_5 : Int) := of_decide_eq_true (by first | (with_reducible assumption) | assumption)
                                        have q339 : x25_5 < (t327.length : Int) := of_decide_eq_true (by first | (with_reducible assumption) | assumption)
                                        obtain ⟨ad339, e339, hx339_0, hx339_1, hx339_2, hx339_3, hx339_4⟩ := at_T46 (Kd.R_reads' HO_18.out).2.2 x25_5 p339 q339
                                        obtain rfl : ad334 = ad339 := (by injection e339)
                                        replace p339 := eq_true p339
                                        replace q339 := eq_true q339
                                        go_wp2
                                        go_roundg k5
                                        case measure => have := HJ8.out; have := HK2.out; have := HJ27.out; have := HK4.out; have := HK5.out; omega
                                        case rel => exact ⟨(x23_5), (wrap64 (x24_5 + (wrap64 ((rd_T46 t327 x25_5).f4)))), (wrap64 (x25_5 + 1)), (by first | rfl | (simp; done) | (simp [*]; done)), (by first | rfl | (simp; done) | (simp [*]; done)), (by first | rfl | (simp; done) | (simp [*]; done)), H', ⟨by have := HJ8.out; have := HK2.out; have := HJ27.out; have := HK4.out; have := HK5.out; omega⟩, ⟨by (with_reducible repeat (first | apply Kd.R_alloc | apply Kd.R_drewN | apply Kd.R_drew)); exact HO_18.out⟩, ⟨by repeat (first | (with_reducible first | exact HB.out | apply below_alloc | apply pw_below_drewN | apply below_drew1) | exact HB.out)⟩⟩
                                      · rw [if_neg c114] at H
                                        have c114b0 : (((rd_T46 t327 x25_5).f3) == 3) = false := beq_eq_false_iff_ne.mpr c114
                                        have c114b1 : (((rd_T46 t327 x25_5).f3) != 3) = true := bne_iff_ne.mpr c114
                                        have H' := Aside0.mk H
                                        clear H
                                        have p334 : 0 ≤ (x25_5 : Int) := of_decide_eq_true (by first | (with_reducible assumption) | assumption)
                                        have q334 : x25_5 < (t327.length : Int) := of_decide_eq_true (by first | (with_reducible assumption) | assumption)
                                        obtain ⟨ad334, e334, hx334_0, hx334_1, hx334_2, hx334_3, hx334_4⟩ := at_T46 (Kd.R_reads' HO_18.out).2.2 x25_5 p334 q334
                                        cases e334
                                        replace p334 := eq_true p334
                                        replace q334 := eq_true q334
                                        have p338 : 0 ≤ (x25_5 : Int) := of_decide_eq_true (by first | (with_reducible assumption) | assumption)
                                        have q338 : x25_5 < (t327.length : Int) := of_decide_eq_true (by first | (with_reducible assumption) | assumption)
                                        obtain ⟨ad338, e338, hx338_0, hx338_1, hx338_2, hx338_3, hx338_4⟩ := at_T46 (Kd.R_reads' HO_18.out).2.2 x25_5 p338 q338
                                        obtain rfl : ad334 = ad338 := (by injection e338)
                                        replace p338 := eq_true p338
                                        replace q338 := eq_true q338
                                        go_wp2
                                        go_roundg k5
                                        case measure => have := HJ8.out; have := HK2.out; have := HJ27.out; have := HK4.out; have := HK5.out; omega
                                        case rel => exact ⟨(x23_5), (x24_5), (wrap64 (x25_5 + 1)), (by first | rfl | (simp; done) | (simp [*]; done)), (by first | rfl | (simp; done) | (simp [*]; done)), (by first | rfl | (simp; done) | (simp [*]; done)), H', ⟨by have := HJ8.out; have := HK2.out; have := HJ27.out; have := HK4.out; have := HK5.out; omega⟩, ⟨by (with_reducible repeat (first | apply Kd.R_alloc | apply Kd.R_drewN | apply Kd.R_drew)); exact HO_18.out⟩, ⟨by repeat (first | (with_reducible first | exact HB.out | apply below_alloc | apply pw_below_drewN | apply below_drew1) | exact HB.out)⟩⟩
                                  · rw [if_neg c111] at H
                                    exact absurd H (by simp)
                                · rw [if_neg c110] at H
                                  have c110b0 : decide (x25_5 < (t327.length : Int)) = false := decide_eq_false c110
                                  clear c110
                                  have HC115 := Aside0.mk H
                                  clear H
                                  go_upto_region 36 with (fail)
                                  go_cut [213] (fun v213 wc => ∃ (kq : Nat) (x213_114 : Bool), v213 = .bool x213_114 ∧ Aside0 (laws_FnPayments.j5 kq t331 t332 x23_5 x24_5 x213_114 = some r) ∧ Aside0 (kq ≤ k5) ∧ Aside0 (Below w.heap.size w wc))
                                  case first => as_aux_lemma =>
                                    have H := HC115.out
                                    clear HC115
                                    by_cases c116 : t331 = t333
                                    · rw [if_pos c116] at H
                                      have c116b0 : (t331 == t333) = true := beq_iff_eq.mpr c116
                                      have c116b1 : (t331 != t333) = false := bne_eq_false_iff_eq.mpr c116
                                      clear c116
                                      (first | rw [c116b0] | (simp only [i64_w, i32_w]; rw [c116b0]) | skip)
                                      by_cases c117 : t330 = t332
                                      · rw [if_pos c117] at H
                                        have c117b0 : (t330 == t332) = true := beq_iff_eq.mpr c117
                                        have c117b1 : (t330 != t332) = false := bne_eq_false_iff_eq.mpr c117
                                        clear c117
                                        have H' := Aside0.mk H
                                        clear H
                                        go_wp2
                                        go_meet
                                        case rel => exact ⟨_, (((t331 == 0) != (decide ((wrap64 (x23_5 + x24_5)) > 0)))), (by first | rfl | (simp; done) | (simp [*]; done)), H', ⟨by have := HJ8.out; have := HK2.out; have := HJ27.out; have := HK4.out; have := HK5.out; first | omega | exact Nat.le_refl _⟩, ⟨by repeat (first | (with_reducible first | exact HB.out | apply below_alloc | apply pw_below_drewN | apply below_drew1) | exact HB.out)⟩⟩
                                      · rw [if_neg c117] at H
                                        have c117b0 : (t330 == t332) = false := beq_eq_false_iff_ne.mpr c117
                                        have c117b1 : (t330 != t332) = true := bne_iff_ne.mpr c117
                                        exact absurd (H.trans (congrArg some HT.out)) (laws_FnPayments.dead_j5 _ _ _ _ _)
                                    · rw [if_neg c116] at H
                                      have c116b0 : (t331 == t333) = false := beq_eq_false_iff_ne.mpr c116
                                      have c116b1 : (t331 != t333) = true := bne_iff_ne.mpr c116
                                      (first | rw [c116b0] | (simp only [i64_w, i32_w]; rw [c116b0]) | skip)
                                      exact absurd (H.trans (congrArg some HT.out)) (laws_FnPayments.dead_j5 _ _ _ _ _)
                                  case rest => as_aux_lemma =>
                                    clear HC115
                                    try clear c1
                                    try clear p2
                                    try clear c3
                                    try clear p3
                                    try clear q3
                                    try clear hx3
                                    try clear c4
                                    try clear c6
                                    try clear p6
                                    try clear c7
                                    try clear c8
                                    try clear q8
                                    try clear c9
                                    try clear q9
                                    try clear c11
                                    try clear c15
                                    try clear c17
                                    try clear c18
                                    try clear c19
                                    try clear c32
                                    try clear c32b0
                                    try clear p32
                                    try clear q32
                                    try clear hx32
                                    try clear c33
                                    try clear p33
                                    try clear q33
                                    try clear hx33
                                    try clear c34
                                    try clear c35
                                    try clear c37
                                    try clear c38
                                    try clear c39
                                    try clear c41
                                    try clear c41b0
                                    try clear c41b1
                                    try clear c62
                                    try clear c63
                                    try clear p64
                                    try clear c74
                                    try clear c75
                                    try clear c76
                                    try clear c76b0
                                    try clear q87
                                    try clear c88
                                    try clear q88
                                    try clear q96
                                    try clear c97
                                    try clear q97
                                    try clear c110
                                    try clear c110b0
                                    try clear c111
                                    try clear c111b0
                                    try clear c112
                                    try clear c112b0
                                    try clear c112b1
                                    try clear c113
                                    try clear c113b0
                                    try clear c113b1
                                    try clear c114
                                    try clear c114b0
                                    try clear c114b1
                                    try clear c116
                                    try clear c116b0
                                    try clear c116b1
                                    try clear c117
                                    try clear c117b0
                                    try clear c117b1
                                    try clear hx322_0
                                    try clear hx322_1
                                    try clear hx322_2
                                    try clear hx323_0
                                    try clear hx323_1
                                    try clear hx323_2
                                    try clear hx324_0
                                    try clear hx325_0
                                    try clear hx325_1
                                    try clear hx325_2
                                    try clear hx326_0
                                    try clear hx334_0
                                    try clear hx334_1
                                    try clear hx334_2
                                    try clear hx334_3
                                    try clear hx334_4
                                    try clear hx335_0
                                    try clear hx335_1
                                    try clear hx335_2
                                    try clear hx335_3
                                    try clear hx335_4
                                    try clear hx336_0
                                    try clear hx336_1
                                    try clear hx336_2
                                    try clear hx336_3
                                    try clear hx336_4
                                    try clear hx337_0
                                    try clear hx337_1
                                    try clear hx337_2
                                    try clear hx337_3
                                    try clear hx337_4
                                    try clear hx338_0
                                    try clear hx338_1
                                    try clear hx338_2
                                    try clear hx338_3
                                    try clear hx338_4
                                    try clear hx339_0
                                    try clear hx339_1
                                    try clear hx339_2
                                    try clear hx339_3
                                    try clear hx339_4
                                    try clear p2
                                    try clear p3
                                    try clear p32
                                    try clear p322
                                    try clear p323
                                    try clear p324
                                    try clear p325
                                    try clear p326
                                    try clear p334
                                    try clear p335
                                    try clear p336
                                    try clear p337
                                    try clear p338
                                    try clear p339
                                    try clear q088
                                    try clear q097
                                    try clear q3
                                    try clear q32
                                    try clear q322
                                    try clear q323
                                    try clear q324
                                    try clear q325
                                    try clear q326
                                    try clear q334
                                    try clear q335
                                    try clear q336
                                    try clear q337
                                    try clear q338
                                    try clear q339
                                    try clear q8
                                    try clear q87
                                    try clear q88
                                    try clear q9
                                    try clear q96
                                    try clear q97
                                    obtain ⟨kq, x213_114, rfl, HA, HJ114, HB⟩ := hcut
                                    cases kq with
                                    | zero => exact absurd HA.out (by simp [laws_FnPayments.j5])
                                    | succ kj114 =>
                                      have H := HA.out
                                      clear HA
                                      simp only [laws_FnPayments.j5] at H
                                      by_cases c118 : x213_114 = true
                                      · subst c118
                                        have H1 : (some false) = some r := by rw [if_pos rfl] at H; exact H
                                        clear H
                                        have H := H1
                                        clear H1
                                        exact absurd (Option.some.inj (H.trans (congrArg some HT.out))) Bool.false_ne_true
                                      · replace c118 := Bool.eq_false_iff.mpr c118
                                        subst c118
                                        have H1 : (if t331 = 0 then (if (wrap64 (t332 * (wrap64 (x23_5 + x24_5)))) ≤ (wrap64 (1000 * x23_5)) then (some (decide ((wrap64 ((wrap64 (t332 + 1)) * (wrap64 (x23_5 + x24_5)))) > (wrap64 (1000 * x23_5))))) else (some false)) else (some (t331 == 6))) = some r := by rw [if_neg (show ¬ (false = true) by decide)] at H; exact H
                                        clear H
                                        have H := H1
                                        clear H1
                                        by_cases c119 : t331 = 0
                                        · rw [if_pos c119] at H
                                          have c119b0 : (t331 == 0) = true := beq_iff_eq.mpr c119
                                          have c119b1 : (t331 != 0) = false := bne_eq_false_iff_eq.mpr c119
                                          clear c119
                                          by_cases c120 : (wrap64 (t332 * (wrap64 (x23_5 + x24_5)))) ≤ (wrap64 (1000 * x23_5))
                                          · rw [if_pos c120] at H
                                            have c120b0 : decide ((wrap64 (t332 * (wrap64 (x23_5 + x24_5)))) ≤ (wrap64 (1000 * x23_5))) = true := decide_eq_true c120
                                            clear c120
                                            obtain rfl := Option.some.inj H
                                            go_wp2
                                            go_ret
                                            exact ⟨by first | rfl | (simp [errW_none, errW_some] <;> rfl) | (simp [*, errW_none, errW_some] <;> rfl), by repeat (first | (with_reducible first | exact HB.out | apply below_alloc | apply pw_below_drewN | apply below_drew1) | exact HB.out)⟩
                                          · rw [if_neg c120] at H
                                            have c120b0 : decide ((wrap64 (t332 * (wrap64 (x23_5 + x24_5)))) ≤ (wrap64 (1000 * x23_5))) = false := decide_eq_false c120
                                            clear c120
                                            exact absurd (Option.some.inj (H.trans (congrArg some HT.out))) Bool.false_ne_true
                                        · rw [if_neg c119] at H
                                          have c119b0 : (t331 == 0) = false := beq_eq_false_iff_ne.mpr c119
                                          have c119b1 : (t331 != 0) = true := bne_iff_ne.mpr c119
                                          obtain rfl := Option.some.inj H
                                          go_wp2
                                          go_ret
                                          exact ⟨by first | rfl | (simp [errW_none, errW_some] <;> rfl) | (simp [*, errW_none, errW_some] <;> rfl), by repeat (first | (with_reducible first | exact HB.out | apply below_alloc | apply pw_below_drewN | apply below_drew1) | exact HB.out)⟩

/-- THE ONE PURE STATEMENT of laws_FnPayments: yours. -/
def laws_FnPayments.Pure : Prop := ∀ (l0 : List Int) (l1 : List Int), l0.length ≤ maxLen → l0.length * 1 ≤ 140737488351232 → (∀ x ∈ l0, (Lit.int .u8 x).wf = true) → l1.length ≤ maxLen → l1.length * 1 ≤ 140737488351232 → (∀ x ∈ l1, (Lit.int .u8 x).wf = true) → ∃ k, laws_FnPayments.f k l0 l1 = some true
theorem laws_FnPayments.walk (P : laws_FnPayments.Pure) (a0 : Option Addr) (len0 cap0 : Nat) (z0 : List Int) (a1 : Option Addr) (len1 cap1 : Nat) (z1 : List Int) (w : World) (w0 : (a0 = none ∧ len0 = 0 ∧ cap0 = 0 ∧ z0 = []) ∨ ∃ x, a0 = some x ∧ len0 ≤ cap0 ∧ cap0 ≤ maxLen ∧ z0.length = cap0 ∧ (∀ i, i < z0.length → w.cell? (x.add i) = some (.int .u8 (z0.getD i 0))) ∧ ∀ n ∈ z0, (Lit.int .u8 n).wf = true) (y0 : len0 * 1 ≤ 140737488351232) (w1 : (a1 = none ∧ len1 = 0 ∧ cap1 = 0 ∧ z1 = []) ∨ ∃ x, a1 = some x ∧ len1 ≤ cap1 ∧ cap1 ≤ maxLen ∧ z1.length = cap1 ∧ (∀ i, i < z1.length → w.cell? (x.add i) = some (.int .u8 (z1.getD i 0))) ∧ ∀ n ∈ z1, (Lit.int .u8 n).wf = true) (y1 : len1 * 1 ≤ 140737488351232) :
    Calls Try.prog 4 #[.slice a0 len0 cap0, .slice a1 len1 cap1] w fun e w' => e = .returned (.bool true) ∧ Below w.heap.size w w' := by
  obtain ⟨l0, rfl, hr0, hm0, hw0, hc0⟩ := ReadsInt.ofRowC w0
  obtain ⟨l1, rfl, hr1, hm1, hw1, hc1⟩ := ReadsInt.ofRowC w1
  obtain ⟨k, h⟩ := P l0 l1 hm0 y0 hw0 hm1 y1 hw1
  refine (laws_FnPayments.calls k _ _ l0 _ _ l1 true w (Kd.C_of_reads (d := (0 : Int)) (h1 := fun _ => rfl) hr0) hc0 (Kd.C_of_reads (d := (0 : Int)) (h1 := fun _ => rfl) hr1) hc1 h rfl).mono ?_
  rintro e w' ⟨rfl, hd⟩
  exact ⟨rfl, hd⟩

end Go.Proofs.Ytljkamjdpjaooaa.G
