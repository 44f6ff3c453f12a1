import Derived.Test.YthbblaapmmhclaaZG0
import Derived.Test.YthbblaapmmhclaaZFRepeatsB
import Derived.Test.YthbblaapmmhclaaZG2
import Derived.Test.YthbblaapmmhclaaZG3
import Derived.Test.YthbblaapmmhclaaZG4
import Derived.Test.YthbblaapmmhclaaZG5
import Derived.Test.YthbblaapmmhclaaZG6
namespace Go.Proofs.Ythbblaapmmhclaa.G
open Go.RowKit Go.Proofs.YthbblaapmmhclaaW.PrintWords Go.Proofs.YthbblaapmmhclaaW.PrintLast Go.Proofs.YthbblaapmmhclaaW.PrintMore
attribute [local go_sem] max2_int min2_int max_two min_two max_three min_three max_four min_four
set_option linter.unusedVariables false
set_option linter.unusedSimpArgs false
mutual
def laws_FnRepeats.j0 : Nat → List Int → List Int → Bool → Option (Bool)
  | 0, _, _, _ => none
  | k + 1, x0, x1, x56 => if x56 = true then (some true) else ((spec_P6Row.f k x0).bind fun t349 => ((spec_P6Walkers.f k x1 (t349.length : Int)).bind fun t352 => ((impl_AllWalkEvery.f k (t349.length : Int) t352).bind fun bt355 => ((spec_AllWalkEvery.f k (t349.length : Int) t352).bind fun bt357 => ((impl_RepeatsBehind.f k (t349.length : Int) t352).bind fun bt359 => ((spec_RepeatsBehind.f k (t349.length : Int) t352).bind fun bt361 => (if bt355.2 = bt357.2 then (if bt355.2 = 0 then (if bt355.1 = bt357.1 then (if bt357.1 < 1 then (laws_FnRepeats.j1 k x0 x1 t349 (t349.length : Int) t352 bt357.1 bt361.1 true) else (if bt359.2 = bt361.2 then (if bt359.2 = 0 then (if bt359.1 = bt361.1 then (if bt357.1 = 0 then (none) else (if (Int.tmod bt361.1 bt357.1) = 0 then (laws_FnRepeats.j1 k x0 x1 t349 (t349.length : Int) t352 bt357.1 bt361.1 (decide (bt361.1 > (wrap64 (8 * bt357.1))))) else (laws_FnRepeats.j1 k x0 x1 t349 (t349.length : Int) t352 bt357.1 bt361.1 true))) else (laws_FnRepeats.j1 k x0 x1 t349 (t349.length : Int) t352 bt357.1 bt361.1 true)) else (laws_FnRepeats.j1 k x0 x1 t349 (t349.length : Int) t352 bt357.1 bt361.1 true)) else (laws_FnRepeats.j1 k x0 x1 t349 (t349.length : Int) t352 bt357.1 bt361.1 true))) else (laws_FnRepeats.j1 k x0 x1 t349 (t349.length : Int) t352 bt357.1 bt361.1 true)) else (laws_FnRepeats.j1 k x0 x1 t349 (t349.length : Int) t352 bt357.1 bt361.1 true)) else (laws_FnRepeats.j1 k x0 x1 t349 (t349.length : Int) t352 bt357.1 bt361.1 true))))))))
def laws_FnRepeats.j1 : Nat → List Int → List Int → List Int → Int → List (S53) → Int → Int → Bool → Option (Bool)
  | 0, _, _, _, _, _, _, _, _ => none
  | k + 1, x0, x1, x5, x6, x7, x10, x14, x129 => if x129 = true then (some false) else ((spec_P6Pick.f x0 40).bind fun t363 => ((impl_RowOn.f k x5 x7 (wrap64 (5 + t363))).bind fun bt364 => ((impl_RowOn.f k x5 x7 (wrap64 ((wrap64 (5 + t363)) + x14))).bind fun bt368 => (if bt364.2 = 0 then (if bt368.2 = 0 then (if (bt364.1.length : Int) = (x5.length : Int) then ((spec_SameRow.f k bt364.1 bt368.1).bind fun t372 => (laws_FnRepeats.j2 k x1 x6 x7 x10 (wrap64 (5 + t363)) (!t372))) else (laws_FnRepeats.j2 k x1 x6 x7 x10 (wrap64 (5 + t363)) true)) else (laws_FnRepeats.j2 k x1 x6 x7 x10 (wrap64 (5 + t363)) true)) else (laws_FnRepeats.j2 k x1 x6 x7 x10 (wrap64 (5 + t363)) true)))))
def laws_FnRepeats.j2 : Nat → List Int → Int → List (S53) → Int → Int → Bool → Option (Bool)
  | 0, _, _, _, _, _, _ => none
  | k + 1, x1, x6, x7, x10, x16, x167 => if x167 = true then (some false) else (laws_FnRepeats.l0 k x1 x6 x7 x10 x16 0)
def laws_FnRepeats.l0 : Nat → List Int → Int → List (S53) → Int → Int → Int → Option (Bool)
  | 0, _, _, _, _, _, _ => none
  | k + 1, x1, x6, x7, x10, x16, x21 => if x21 < (x7.length : Int) then (laws_FnRepeats.l1 k x1 x6 x7 x10 x16 x21 0 0) else ((impl_BusiestDay.f k x6 x7 0 x16).bind fun bt383 => ((spec_BusiestDay.f k x6 x7 0 x16).bind fun bt386 => (if bt383.2.2 = bt386.2.2 then (if bt383.2.2 = 0 then (if bt383.1 = bt386.1 then (laws_FnRepeats.j6 k x1 x6 x7 x16 bt386.1 bt386.2.1 (bt383.2.1 != bt386.2.1)) else (laws_FnRepeats.j6 k x1 x6 x7 x16 bt386.1 bt386.2.1 true)) else (laws_FnRepeats.j6 k x1 x6 x7 x16 bt386.1 bt386.2.1 true)) else (laws_FnRepeats.j6 k x1 x6 x7 x16 bt386.1 bt386.2.1 true))))
def laws_FnRepeats.l1 : Nat → List Int → Int → List (S53) → Int → Int → Int → Int → Int → Option (Bool)
  | 0, _, _, _, _, _, _, _, _ => none
  | k + 1, x1, x6, x7, x10, x16, x21, x22, x23 => if x23 ≤ x16 then (if 0 ≤ x21 then (if x21 < (x7.length : Int) then ((impl_WalksOn.f x6 ((rd_T53 x7 x21).f0) ((rd_T53 x7 x21).f1) ((rd_T53 x7 x21).f2) ((rd_T53 x7 x21).f3) ((rd_T53 x7 x21).f4) ((rd_T53 x7 x21).f5) x23).bind fun bt374 => ((impl_WalksOn.f x6 ((rd_T53 x7 x21).f0) ((rd_T53 x7 x21).f1) ((rd_T53 x7 x21).f2) ((rd_T53 x7 x21).f3) ((rd_T53 x7 x21).f4) ((rd_T53 x7 x21).f5) (wrap64 (x23 + x10))).bind fun bt377 => ((impl_WalksUntil.f x6 ((rd_T53 x7 x21).f0) ((rd_T53 x7 x21).f1) ((rd_T53 x7 x21).f2) ((rd_T53 x7 x21).f3) ((rd_T53 x7 x21).f4) ((rd_T53 x7 x21).f5) x23).bind fun bt380 => (if bt374.2 = 0 then (if bt377.2 = 0 then (if bt380.2 = 0 then (if x23 ≥ (wrap64 ((rd_T53 x7 x21).f0)) then (laws_FnRepeats.j5 k x1 x6 x7 x10 x16 x21 x22 x23 bt374.1 bt380.1 (bt374.1 != bt377.1)) else (laws_FnRepeats.j5 k x1 x6 x7 x10 x16 x21 x22 x23 bt374.1 bt380.1 false)) else (laws_FnRepeats.j5 k x1 x6 x7 x10 x16 x21 x22 x23 bt374.1 bt380.1 true)) else (laws_FnRepeats.j5 k x1 x6 x7 x10 x16 x21 x22 x23 bt374.1 bt380.1 true)) else (laws_FnRepeats.j5 k x1 x6 x7 x10 x16 x21 x22 x23 bt374.1 bt380.1 true))))) else (none)) else (none)) else (laws_FnRepeats.l0 k x1 x6 x7 x10 x16 (wrap64 (x21 + 1)))
def laws_FnRepeats.j5 : Nat → List Int → Int → List (S53) → Int → Int → Int → Int → Int → Bool → Int → Bool → Option (Bool)
  | 0, _, _, _, _, _, _, _, _, _, _, _ => none
  | k + 1, x1, x6, x7, x10, x16, x21, x22, x23, x24, x28, x235 => if x235 = true then (some false) else (if x24 = true then (if x28 = (wrap64 (x22 + 1)) then (laws_FnRepeats.l1 k x1 x6 x7 x10 x16 x21 (wrap64 (x22 + 1)) (wrap64 (x23 + 1))) else (some false)) else (if x28 = x22 then (laws_FnRepeats.l1 k x1 x6 x7 x10 x16 x21 x22 (wrap64 (x23 + 1))) else (some false)))
def laws_FnRepeats.j6 : Nat → List Int → Int → List (S53) → Int → Int → Int → Bool → Option (Bool)
  | 0, _, _, _, _, _, _, _ => none
  | k + 1, x1, x6, x7, x16, x33, x34, x274 => if x274 = true then (some false) else (laws_FnRepeats.l2 k x1 x6 x7 x16 x33 x34 0)
def laws_FnRepeats.l2 : Nat → List Int → Int → List (S53) → Int → Int → Int → Int → Option (Bool)
  | 0, _, _, _, _, _, _, _ => none
  | k + 1, x1, x6, x7, x16, x33, x34, x36 => if x36 ≤ x16 then (laws_FnRepeats.l3 k x1 x6 x7 x16 x33 x34 x36 0 0) else (if (x7.length : Int) < 2 then (some true) else ((spec_P6Pick.f x1 20).bind fun t393 => (if 0 < (x7.length : Int) then (if 1 < (x7.length : Int) then ((impl_MeetingDay.f k x6 ((rd_T53 x7 0).f0) ((rd_T53 x7 0).f1) ((rd_T53 x7 0).f2) ((rd_T53 x7 0).f3) ((rd_T53 x7 0).f4) ((rd_T53 x7 0).f5) ((rd_T53 x7 1).f0) ((rd_T53 x7 1).f1) ((rd_T53 x7 1).f2) ((rd_T53 x7 1).f3) ((rd_T53 x7 1).f4) ((rd_T53 x7 1).f5) t393).bind fun bt396 => ((spec_MeetingDay.f k x6 ((rd_T53 x7 0).f0) ((rd_T53 x7 0).f1) ((rd_T53 x7 0).f2) ((rd_T53 x7 0).f3) ((rd_T53 x7 0).f4) ((rd_T53 x7 0).f5) ((rd_T53 x7 1).f0) ((rd_T53 x7 1).f1) ((rd_T53 x7 1).f2) ((rd_T53 x7 1).f3) ((rd_T53 x7 1).f4) ((rd_T53 x7 1).f5) t393).bind fun bt400 => (if bt396.2 = bt400.2 then (if bt396.1 = bt400.1 then (if bt396.2 = 0 then (laws_FnRepeats.j9 k x6 x7 t393 bt396.2 bt400.1 false) else (laws_FnRepeats.j9 k x6 x7 t393 bt396.2 bt400.1 (bt396.2 != 6))) else (laws_FnRepeats.j9 k x6 x7 t393 bt396.2 bt400.1 true)) else (laws_FnRepeats.j9 k x6 x7 t393 bt396.2 bt400.1 true)))) else (none)) else (none))))
def laws_FnRepeats.l3 : Nat → List Int → Int → List (S53) → Int → Int → Int → Int → Int → Int → Option (Bool)
  | 0, _, _, _, _, _, _, _, _, _ => none
  | k + 1, x1, x6, x7, x16, x33, x34, x36, x37, x38 => if x38 < (x7.length : Int) then (if 0 ≤ x38 then ((spec_WalksOn.f k x6 ((rd_T53 x7 x38).f0) ((rd_T53 x7 x38).f1) ((rd_T53 x7 x38).f2) ((rd_T53 x7 x38).f3) ((rd_T53 x7 x38).f4) ((rd_T53 x7 x38).f5) x36).bind fun bt390 => (if bt390.2 = 0 then (if bt390.1 = true then (laws_FnRepeats.l3 k x1 x6 x7 x16 x33 x34 x36 (wrap64 (x37 + (wrap64 ((rd_T53 x7 x38).f4)))) (wrap64 (x38 + 1))) else (laws_FnRepeats.l3 k x1 x6 x7 x16 x33 x34 x36 x37 (wrap64 (x38 + 1)))) else (some false))) else (none)) else (if x37 > x34 then (some false) else (if x36 < x33 then (if x37 ≥ x34 then (some false) else (if x36 = x33 then (if x37 = x34 then (laws_FnRepeats.l2 k x1 x6 x7 x16 x33 x34 (wrap64 (x36 + 1))) else (some false)) else (laws_FnRepeats.l2 k x1 x6 x7 x16 x33 x34 (wrap64 (x36 + 1))))) else (if x36 = x33 then (if x37 = x34 then (laws_FnRepeats.l2 k x1 x6 x7 x16 x33 x34 (wrap64 (x36 + 1))) else (some false)) else (laws_FnRepeats.l2 k x1 x6 x7 x16 x33 x34 (wrap64 (x36 + 1))))))
def laws_FnRepeats.j9 : Nat → Int → List (S53) → Int → Int → Int → Bool → Option (Bool)
  | 0, _, _, _, _, _, _ => none
  | k + 1, x6, x7, x41, x43, x44, x374 => if x374 = true then (some false) else (laws_FnRepeats.l4 k x6 x7 x41 x43 x44 x41)
def laws_FnRepeats.l4 : Nat → Int → List (S53) → Int → Int → Int → Int → Option (Bool)
  | 0, _, _, _, _, _, _ => none
  | k + 1, x6, x7, x41, x43, x44, x46 => if x46 < (wrap64 (x41 + 60)) then (if 0 < (x7.length : Int) then ((spec_WalksOn.f k x6 ((rd_T53 x7 0).f0) ((rd_T53 x7 0).f1) ((rd_T53 x7 0).f2) ((rd_T53 x7 0).f3) ((rd_T53 x7 0).f4) ((rd_T53 x7 0).f5) x46).bind fun bt403 => (if 1 < (x7.length : Int) then ((spec_WalksOn.f k x6 ((rd_T53 x7 1).f0) ((rd_T53 x7 1).f1) ((rd_T53 x7 1).f2) ((rd_T53 x7 1).f3) ((rd_T53 x7 1).f4) ((rd_T53 x7 1).f5) x46).bind fun bt406 => (if bt403.2 = 0 then (if bt406.2 = 0 then (if bt403.1 = true then (if bt406.1 = true then (if x43 = 0 then (if x46 < x44 then (some false) else (if x46 = x44 then (laws_FnRepeats.l4 k x6 x7 x41 x43 x44 (wrap64 (x46 + 1))) else (laws_FnRepeats.l4 k x6 x7 x41 x43 x44 (wrap64 (x46 + 1))))) else (some false)) else (if x43 = 0 then (if x46 = x44 then (some false) else (laws_FnRepeats.l4 k x6 x7 x41 x43 x44 (wrap64 (x46 + 1)))) else (laws_FnRepeats.l4 k x6 x7 x41 x43 x44 (wrap64 (x46 + 1))))) else (if x43 = 0 then (if x46 = x44 then (some false) else (laws_FnRepeats.l4 k x6 x7 x41 x43 x44 (wrap64 (x46 + 1)))) else (laws_FnRepeats.l4 k x6 x7 x41 x43 x44 (wrap64 (x46 + 1))))) else (some false)) else (some false))) else (none))) else (none)) else (some true)
end
def laws_FnRepeats.f (k : Nat) (l0 : List Int) (l1 : List Int) : Option (Bool) := (laws_f6big.f l0).bind fun t347 => (if t347 = true then (laws_FnRepeats.j0 k l0 l1 true) else ((laws_f6big.f l1).bind fun t348 => (laws_FnRepeats.j0 k l0 l1 t348)))
theorem laws_FnRepeats.mono_l : ∀ k, (∀ y0 y1 y2, LeO (laws_FnRepeats.j0 k y0 y1 y2) (laws_FnRepeats.j0 (k + 1) y0 y1 y2)) ∧ (∀ y0 y1 y2 y3 y4 y5 y6 y7, LeO (laws_FnRepeats.j1 k y0 y1 y2 y3 y4 y5 y6 y7) (laws_FnRepeats.j1 (k + 1) y0 y1 y2 y3 y4 y5 y6 y7)) ∧ (∀ y0 y1 y2 y3 y4 y5, LeO (laws_FnRepeats.j2 k y0 y1 y2 y3 y4 y5) (laws_FnRepeats.j2 (k + 1) y0 y1 y2 y3 y4 y5)) ∧ (∀ y0 y1 y2 y3 y4 y5, LeO (laws_FnRepeats.l0 k y0 y1 y2 y3 y4 y5) (laws_FnRepeats.l0 (k + 1) y0 y1 y2 y3 y4 y5)) ∧ (∀ y0 y1 y2 y3 y4 y5 y6 y7, LeO (laws_FnRepeats.l1 k y0 y1 y2 y3 y4 y5 y6 y7) (laws_FnRepeats.l1 (k + 1) y0 y1 y2 y3 y4 y5 y6 y7)) ∧ (∀ y0 y1 y2 y3 y4 y5 y6 y7 y8 y9 y10, LeO (laws_FnRepeats.j5 k y0 y1 y2 y3 y4 y5 y6 y7 y8 y9 y10) (laws_FnRepeats.j5 (k + 1) y0 y1 y2 y3 y4 y5 y6 y7 y8 y9 y10)) ∧ (∀ y0 y1 y2 y3 y4 y5 y6, LeO (laws_FnRepeats.j6 k y0 y1 y2 y3 y4 y5 y6) (laws_FnRepeats.j6 (k + 1) y0 y1 y2 y3 y4 y5 y6)) ∧ (∀ y0 y1 y2 y3 y4 y5 y6, LeO (laws_FnRepeats.l2 k y0 y1 y2 y3 y4 y5 y6) (laws_FnRepeats.l2 (k + 1) y0 y1 y2 y3 y4 y5 y6)) ∧ (∀ y0 y1 y2 y3 y4 y5 y6 y7 y8, LeO (laws_FnRepeats.l3 k y0 y1 y2 y3 y4 y5 y6 y7 y8) (laws_FnRepeats.l3 (k + 1) y0 y1 y2 y3 y4 y5 y6 y7 y8)) ∧ (∀ y0 y1 y2 y3 y4 y5, LeO (laws_FnRepeats.j9 k y0 y1 y2 y3 y4 y5) (laws_FnRepeats.j9 (k + 1) y0 y1 y2 y3 y4 y5)) ∧ (∀ y0 y1 y2 y3 y4 y5, LeO (laws_FnRepeats.l4 k y0 y1 y2 y3 y4 y5) (laws_FnRepeats.l4 (k + 1) y0 y1 y2 y3 y4 y5))
  | 0 => ⟨fun _ _ _ r h => by simp [laws_FnRepeats.j0] at h, fun _ _ _ _ _ _ _ _ r h => by simp [laws_FnRepeats.j1] at h, fun _ _ _ _ _ _ r h => by simp [laws_FnRepeats.j2] at h, fun _ _ _ _ _ _ r h => by simp [laws_FnRepeats.l0] at h, fun _ _ _ _ _ _ _ _ r h => by simp [laws_FnRepeats.l1] at h, fun _ _ _ _ _ _ _ _ _ _ _ r h => by simp [laws_FnRepeats.j5] at h, fun _ _ _ _ _ _ _ r h => by simp [laws_FnRepeats.j6] at h, fun _ _ _ _ _ _ _ r h => by simp [laws_FnRepeats.l2] at h, fun _ _ _ _ _ _ _ _ _ r h => by simp [laws_FnRepeats.l3] at h, fun _ _ _ _ _ _ r h => by simp [laws_FnRepeats.j9] at h, fun _ _ _ _ _ _ r h => by simp [laws_FnRepeats.l4] at h⟩
  | k + 1 => by
    obtain ⟨ih0, ih1, ih2, ih3, ih4, ih5, ih6, ih7, ih8, ih9, ih10⟩ := laws_FnRepeats.mono_l k
    refine ⟨?_, ?_, ?_, ?_, ?_, ?_, ?_, ?_, ?_, ?_, ?_⟩
    · intro y0 y1 y2
      unfold laws_FnRepeats.j0
      repeat' first
      | (with_reducible exact ih0 _ _ _)
      | (with_reducible exact ih1 _ _ _ _ _ _ _ _)
      | (with_reducible exact ih2 _ _ _ _ _ _)
      | (with_reducible exact ih3 _ _ _ _ _ _)
      | (with_reducible exact ih4 _ _ _ _ _ _ _ _)
      | (with_reducible exact ih5 _ _ _ _ _ _ _ _ _ _ _)
      | (with_reducible exact ih6 _ _ _ _ _ _ _)
      | (with_reducible exact ih7 _ _ _ _ _ _ _)
      | (with_reducible exact ih8 _ _ _ _ _ _ _ _ _)
      | (with_reducible exact ih9 _ _ _ _ _ _)
      | (with_reducible exact ih10 _ _ _ _ _ _)
      | (with_reducible exact impl_AllWalkEvery.mono _ _ _)
      | (with_reducible exact impl_BusiestDay.mono _ _ _ _ _)
      | (with_reducible exact impl_MeetingDay.mono _ _ _ _ _ _ _ _ _ _ _ _ _ _ _)
      | (with_reducible exact impl_RepeatsBehind.mono _ _ _)
      | (with_reducible exact impl_RowOn.mono _ _ _ _)
      | (with_reducible exact spec_AllWalkEvery.mono _ _ _)
      | (with_reducible exact spec_BusiestDay.mono _ _ _ _ _)
      | (with_reducible exact spec_MeetingDay.mono _ _ _ _ _ _ _ _ _ _ _ _ _ _ _)
      | (with_reducible exact spec_P6Row.mono _ _)
      | (with_reducible exact spec_P6Walkers.mono _ _ _)
      | (with_reducible exact spec_RepeatsBehind.mono _ _ _)
      | (with_reducible exact spec_SameRow.mono _ _ _)
      | (with_reducible exact spec_WalksOn.mono _ _ _ _ _ _ _ _ _)
      | (with_reducible exact LeO.refl _)
      | (with_reducible exact LeO.none _)
      | (with_reducible refine LeO.ite ?_ ?_)
      | (with_reducible refine LeO.bind ?_ (fun _ => ?_))
      | exact ih0 _ _ _
      | exact ih1 _ _ _ _ _ _ _ _
      | exact ih2 _ _ _ _ _ _
      | exact ih3 _ _ _ _ _ _
      | exact ih4 _ _ _ _ _ _ _ _
      | exact ih5 _ _ _ _ _ _ _ _ _ _ _
      | exact ih6 _ _ _ _ _ _ _
      | exact ih7 _ _ _ _ _ _ _
      | exact ih8 _ _ _ _ _ _ _ _ _
      | exact ih9 _ _ _ _ _ _
      | exact ih10 _ _ _ _ _ _
      | exact impl_AllWalkEvery.mono _ _ _
      | exact impl_BusiestDay.mono _ _ _ _ _
      | exact impl_MeetingDay.mono _ _ _ _ _ _ _ _ _ _ _ _ _ _ _
      | exact impl_RepeatsBehind.mono _ _ _
      | exact impl_RowOn.mono _ _ _ _
      | exact spec_AllWalkEvery.mono _ _ _
      | exact spec_BusiestDay.mono _ _ _ _ _
      | exact spec_MeetingDay.mono _ _ _ _ _ _ _ _ _ _ _ _ _ _ _
      | exact spec_P6Row.mono _ _
      | exact spec_P6Walkers.mono _ _ _
      | exact spec_RepeatsBehind.mono _ _ _
      | exact spec_SameRow.mono _ _ _
      | exact spec_WalksOn.mono _ _ _ _ _ _ _ _ _
      | exact LeO.none _
      | refine LeO.ite ?_ ?_
      | refine LeO.bind ?_ (fun _ => ?_)
    · intro y0 y1 y2 y3 y4 y5 y6 y7
      unfold laws_FnRepeats.j1
      repeat' first
      | (with_reducible exact ih0 _ _ _)
      | (with_reducible exact ih1 _ _ _ _ _ _ _ _)
      | (with_reducible exact ih2 _ _ _ _ _ _)
      | (with_reducible exact ih3 _ _ _ _ _ _)
      | (with_reducible exact ih4 _ _ _ _ _ _ _ _)
      | (with_reducible exact ih5 _ _ _ _ _ _ _ _ _ _ _)
      | (with_reducible exact ih6 _ _ _ _ _ _ _)
      | (with_reducible exact ih7 _ _ _ _ _ _ _)
      | (with_reducible exact ih8 _ _ _ _ _ _ _ _ _)
      | (with_reducible exact ih9 _ _ _ _ _ _)
      | (with_reducible exact ih10 _ _ _ _ _ _)
      | (with_reducible exact impl_AllWalkEvery.mono _ _ _)
      | (with_reducible exact impl_BusiestDay.mono _ _ _ _ _)
      | (with_reducible exact impl_MeetingDay.mono _ _ _ _ _ _ _ _ _ _ _ _ _ _ _)
      | (with_reducible exact impl_RepeatsBehind.mono _ _ _)
      | (with_reducible exact impl_RowOn.mono _ _ _ _)
      | (with_reducible exact spec_AllWalkEvery.mono _ _ _)
      | (with_reducible exact spec_BusiestDay.mono _ _ _ _ _)
      | (with_reducible exact spec_MeetingDay.mono _ _ _ _ _ _ _ _ _ _ _ _ _ _ _)
      | (with_reducible exact spec_P6Row.mono _ _)
      | (with_reducible exact spec_P6Walkers.mono _ _ _)
      | (with_reducible exact spec_RepeatsBehind.mono _ _ _)
      | (with_reducible exact spec_SameRow.mono _ _ _)
      | (with_reducible exact spec_WalksOn.mono _ _ _ _ _ _ _ _ _)
      | (with_reducible exact LeO.refl _)
      | (with_reducible exact LeO.none _)
      | (with_reducible refine LeO.ite ?_ ?_)
      | (with_reducible refine LeO.bind ?_ (fun _ => ?_))
      | exact ih0 _ _ _
      | exact ih1 _ _ _ _ _ _ _ _
      | exact ih2 _ _ _ _ _ _
      | exact ih3 _ _ _ _ _ _
      | exact ih4 _ _ _ _ _ _ _ _
      | exact ih5 _ _ _ _ _ _ _ _ _ _ _
      | exact ih6 _ _ _ _ _ _ _
      | exact ih7 _ _ _ _ _ _ _
      | exact ih8 _ _ _ _ _ _ _ _ _
      | exact ih9 _ _ _ _ _ _
      | exact ih10 _ _ _ _ _ _
      | exact impl_AllWalkEvery.mono _ _ _
      | exact impl_BusiestDay.mono _ _ _ _ _
      | exact impl_MeetingDay.mono _ _ _ _ _ _ _ _ _ _ _ _ _ _ _
      | exact impl_RepeatsBehind.mono _ _ _
      | exact impl_RowOn.mono _ _ _ _
      | exact spec_AllWalkEvery.mono _ _ _
      | exact spec_BusiestDay.mono _ _ _ _ _
      | exact spec_MeetingDay.mono _ _ _ _ _ _ _ _ _ _ _ _ _ _ _
      | exact spec_P6Row.mono _ _
      | exact spec_P6Walkers.mono _ _ _
      | exact spec_RepeatsBehind.mono _ _ _
      | exact spec_SameRow.mono _ _ _
      | exact spec_WalksOn.mono _ _ _ _ _ _ _ _ _
      | exact LeO.none _
      | refine LeO.ite ?_ ?_
      | refine LeO.bind ?_ (fun _ => ?_)
    · intro y0 y1 y2 y3 y4 y5
      unfold laws_FnRepeats.j2
      repeat' first
      | (with_reducible exact ih0 _ _ _)
      | (with_reducible exact ih1 _ _ _ _ _ _ _ _)
      | (with_reducible exact ih2 _ _ _ _ _ _)
      | (with_reducible exact ih3 _ _ _ _ _ _)
      | (with_reducible exact ih4 _ _ _ _ _ _ _ _)
      | (with_reducible exact ih5 _ _ _ _ _ _ _ _ _ _ _)
      | (with_reducible exact ih6 _ _ _ _ _ _ _)
      | (with_reducible exact ih7 _ _ _ _ _ _ _)
      | (with_reducible exact ih8 _ _ _ _ _ _ _ _ _)
      | (with_reducible exact ih9 _ _ _ _ _ _)
      | (with_reducible exact ih10 _ _ _ _ _ _)
      | (with_reducible exact impl_AllWalkEvery.mono _ _ _)
      | (with_reducible exact impl_BusiestDay.mono _ _ _ _ _)
      | (with_reducible exact impl_MeetingDay.mono _ _ _ _ _ _ _ _ _ _ _ _ _ _ _)
      | (with_reducible exact impl_RepeatsBehind.mono _ _ _)
      | (with_reducible exact impl_RowOn.mono _ _ _ _)
      | (with_reducible exact spec_AllWalkEvery.mono _ _ _)
      | (with_reducible exact spec_BusiestDay.mono _ _ _ _ _)
      | (with_reducible exact spec_MeetingDay.mono _ _ _ _ _ _ _ _ _ _ _ _ _ _ _)
      | (with_reducible exact spec_P6Row.mono _ _)
      | (with_reducible exact spec_P6Walkers.mono _ _ _)
      | (with_reducible exact spec_RepeatsBehind.mono _ _ _)
      | (with_reducible exact spec_SameRow.mono _ _ _)
      | (with_reducible exact spec_WalksOn.mono _ _ _ _ _ _ _ _ _)
      | (with_reducible exact LeO.refl _)
      | (with_reducible exact LeO.none _)
      | (with_reducible refine LeO.ite ?_ ?_)
      | (with_reducible refine LeO.bind ?_ (fun _ => ?_))
      | exact ih0 _ _ _
      | exact ih1 _ _ _ _ _ _ _ _
      | exact ih2 _ _ _ _ _ _
      | exact ih3 _ _ _ _ _ _
      | exact ih4 _ _ _ _ _ _ _ _
      | exact ih5 _ _ _ _ _ _ _ _ _ _ _
      | exact ih6 _ _ _ _ _ _ _
      | exact ih7 _ _ _ _ _ _ _
      | exact ih8 _ _ _ _ _ _ _ _ _
      | exact ih9 _ _ _ _ _ _
      | exact ih10 _ _ _ _ _ _
      | exact impl_AllWalkEvery.mono _ _ _
      | exact impl_BusiestDay.mono _ _ _ _ _
      | exact impl_MeetingDay.mono _ _ _ _ _ _ _ _ _ _ _ _ _ _ _
      | exact impl_RepeatsBehind.mono _ _ _
      | exact impl_RowOn.mono _ _ _ _
      | exact spec_AllWalkEvery.mono _ _ _
      | exact spec_BusiestDay.mono _ _ _ _ _
      | exact spec_MeetingDay.mono _ _ _ _ _ _ _ _ _ _ _ _ _ _ _
      | exact spec_P6Row.mono _ _
      | exact spec_P6Walkers.mono _ _ _
      | exact spec_RepeatsBehind.mono _ _ _
      | exact spec_SameRow.mono _ _ _
      | exact spec_WalksOn.mono _ _ _ _ _ _ _ _ _
      | exact LeO.none _
      | refine LeO.ite ?_ ?_
      | refine LeO.bind ?_ (fun _ => ?_)
    · intro y0 y1 y2 y3 y4 y5
      unfold laws_FnRepeats.l0
      repeat' first
      | (with_reducible exact ih0 _ _ _)
      | (with_reducible exact ih1 _ _ _ _ _ _ _ _)
      | (with_reducible exact ih2 _ _ _ _ _ _)
      | (with_reducible exact ih3 _ _ _ _ _ _)
      | (with_reducible exact ih4 _ _ _ _ _ _ _ _)
      | (with_reducible exact ih5 _ _ _ _ _ _ _ _ _ _ _)
      | (with_reducible exact ih6 _ _ _ _ _ _ _)
      | (with_reducible exact ih7 _ _ _ _ _ _ _)
      | (with_reducible exact ih8 _ _ _ _ _ _ _ _ _)
      | (with_reducible exact ih9 _ _ _ _ _ _)
      | (with_reducible exact ih10 _ _ _ _ _ _)
      | (with_reducible exact impl_AllWalkEvery.mono _ _ _)
      | (with_reducible exact impl_BusiestDay.mono _ _ _ _ _)
      | (with_reducible exact impl_MeetingDay.mono _ _ _ _ _ _ _ _ _ _ _ _ _ _ _)
      | (with_reducible exact impl_RepeatsBehind.mono _ _ _)
      | (with_reducible exact impl_RowOn.mono _ _ _ _)
      | (with_reducible exact spec_AllWalkEvery.mono _ _ _)
      | (with_reducible exact spec_BusiestDay.mono _ _ _ _ _)
      | (with_reducible exact spec_MeetingDay.mono _ _ _ _ _ _ _ _ _ _ _ _ _ _ _)
      | (with_reducible exact spec_P6Row.mono _ _)
      | (with_reducible exact spec_P6Walkers.mono _ _ _)
      | (with_reducible exact spec_RepeatsBehind.mono _ _ _)
      | (with_reducible exact spec_SameRow.mono _ _ _)
      | (with_reducible exact spec_WalksOn.mono _ _ _ _ _ _ _ _ _)
      | (with_reducible exact LeO.refl _)
      | (with_reducible exact LeO.none _)
      | (with_reducible refine LeO.ite ?_ ?_)
      | (with_reducible refine LeO.bind ?_ (fun _ => ?_))
      | exact ih0 _ _ _
      | exact ih1 _ _ _ _ _ _ _ _
      | exact ih2 _ _ _ _ _ _
      | exact ih3 _ _ _ _ _ _
      | exact ih4 _ _ _ _ _ _ _ _
      | exact ih5 _ _ _ _ _ _ _ _ _ _ _
      | exact ih6 _ _ _ _ _ _ _
      | exact ih7 _ _ _ _ _ _ _
      | exact ih8 _ _ _ _ _ _ _ _ _
      | exact ih9 _ _ _ _ _ _
      | exact ih10 _ _ _ _ _ _
      | exact impl_AllWalkEvery.mono _ _ _
      | exact impl_BusiestDay.mono _ _ _ _ _
      | exact impl_MeetingDay.mono _ _ _ _ _ _ _ _ _ _ _ _ _ _ _
      | exact impl_RepeatsBehind.mono _ _ _
      | exact impl_RowOn.mono _ _ _ _
      | exact spec_AllWalkEvery.mono _ _ _
      | exact spec_BusiestDay.mono _ _ _ _ _
      | exact spec_MeetingDay.mono _ _ _ _ _ _ _ _ _ _ _ _ _ _ _
      | exact spec_P6Row.mono _ _
      | exact spec_P6Walkers.mono _ _ _
      | exact spec_RepeatsBehind.mono _ _ _
      | exact spec_SameRow.mono _ _ _
      | exact spec_WalksOn.mono _ _ _ _ _ _ _ _ _
      | exact LeO.none _
      | refine LeO.ite ?_ ?_
      | refine LeO.bind ?_ (fun _ => ?_)
    · intro y0 y1 y2 y3 y4 y5 y6 y7
      unfold laws_FnRepeats.l1
      repeat' first
      | (with_reducible exact ih0 _ _ _)
      | (with_reducible exact ih1 _ _ _ _ _ _ _ _)
      | (with_reducible exact ih2 _ _ _ _ _ _)
      | (with_reducible exact ih3 _ _ _ _ _ _)
      | (with_reducible exact ih4 _ _ _ _ _ _ _ _)
      | (with_reducible exact ih5 _ _ _ _ _ _ _ _ _ _ _)
      | (with_reducible exact ih6 _ _ _ _ _ _ _)
      | (with_reducible exact ih7 _ _ _ _ _ _ _)
      | (with_reducible exact ih8 _ _ _ _ _ _ _ _ _)
      | (with_reducible exact ih9 _ _ _ _ _ _)
      | (with_reducible exact ih10 _ _ _ _ _ _)
      | (with_reducible exact impl_AllWalkEvery.mono _ _ _)
      | (with_reducible exact impl_BusiestDay.mono _ _ _ _ _)
      | (with_reducible exact impl_MeetingDay.mono _ _ _ _ _ _ _ _ _ _ _ _ _ _ _)
      | (with_reducible exact impl_RepeatsBehind.mono _ _ _)
      | (with_reducible exact impl_RowOn.mono _ _ _ _)
      | (with_reducible exact spec_AllWalkEvery.mono _ _ _)
      | (with_reducible exact spec_BusiestDay.mono _ _ _ _ _)
      | (with_reducible exact spec_MeetingDay.mono _ _ _ _ _ _ _ _ _ _ _ _ _ _ _)
      | (with_reducible exact spec_P6Row.mono _ _)
      | (with_reducible exact spec_P6Walkers.mono _ _ _)
      | (with_reducible exact spec_RepeatsBehind.mono _ _ _)
      | (with_reducible exact spec_SameRow.mono _ _ _)
      | (with_reducible exact spec_WalksOn.mono _ _ _ _ _ _ _ _ _)
      | (with_reducible exact LeO.refl _)
      | (with_reducible exact LeO.none _)
      | (with_reducible refine LeO.ite ?_ ?_)
      | (with_reducible refine LeO.bind ?_ (fun _ => ?_))
      | exact ih0 _ _ _
      | exact ih1 _ _ _ _ _ _ _ _
      | exact ih2 _ _ _ _ _ _
      | exact ih3 _ _ _ _ _ _
      | exact ih4 _ _ _ _ _ _ _ _
      | exact ih5 _ _ _ _ _ _ _ _ _ _ _
      | exact ih6 _ _ _ _ _ _ _
      | exact ih7 _ _ _ _ _ _ _
      | exact ih8 _ _ _ _ _ _ _ _ _
      | exact ih9 _ _ _ _ _ _
      | exact ih10 _ _ _ _ _ _
      | exact impl_AllWalkEvery.mono _ _ _
      | exact impl_BusiestDay.mono _ _ _ _ _
      | exact impl_MeetingDay.mono _ _ _ _ _ _ _ _ _ _ _ _ _ _ _
      | exact impl_RepeatsBehind.mono _ _ _
      | exact impl_RowOn.mono _ _ _ _
      | exact spec_AllWalkEvery.mono _ _ _
      | exact spec_BusiestDay.mono _ _ _ _ _
      | exact spec_MeetingDay.mono _ _ _ _ _ _ _ _ _ _ _ _ _ _ _
      | exact spec_P6Row.mono _ _
      | exact spec_P6Walkers.mono _ _ _
      | exact spec_RepeatsBehind.mono _ _ _
      | exact spec_SameRow.mono _ _ _
      | exact spec_WalksOn.mono _ _ _ _ _ _ _ _ _
      | exact LeO.none _
      | refine LeO.ite ?_ ?_
      | refine LeO.bind ?_ (fun _ => ?_)
    · intro y0 y1 y2 y3 y4 y5 y6 y7 y8 y9 y10
      unfold laws_FnRepeats.j5
      repeat' first
      | (with_reducible exact ih0 _ _ _)
      | (with_reducible exact ih1 _ _ _ _ _ _ _ _)
      | (with_reducible exact ih2 _ _ _ _ _ _)
      | (with_reducible exact ih3 _ _ _ _ _ _)
      | (with_reducible exact ih4 _ _ _ _ _ _ _ _)
      | (with_reducible exact ih5 _ _ _ _ _ _ _ _ _ _ _)
      | (with_reducible exact ih6 _ _ _ _ _ _ _)
      | (with_reducible exact ih7 _ _ _ _ _ _ _)
      | (with_reducible exact ih8 _ _ _ _ _ _ _ _ _)
      | (with_reducible exact ih9 _ _ _ _ _ _)
      | (with_reducible exact ih10 _ _ _ _ _ _)
      | (with_reducible exact impl_AllWalkEvery.mono _ _ _)
      | (with_reducible exact impl_BusiestDay.mono _ _ _ _ _)
      | (with_reducible exact impl_MeetingDay.mono _ _ _ _ _ _ _ _ _ _ _ _ _ _ _)
      | (with_reducible exact impl_RepeatsBehind.mono _ _ _)
      | (with_reducible exact impl_RowOn.mono _ _ _ _)
      | (with_reducible exact spec_AllWalkEvery.mono _ _ _)
      | (with_reducible exact spec_BusiestDay.mono _ _ _ _ _)
      | (with_reducible exact spec_MeetingDay.mono _ _ _ _ _ _ _ _ _ _ _ _ _ _ _)
      | (with_reducible exact spec_P6Row.mono _ _)
      | (with_reducible exact spec_P6Walkers.mono _ _ _)
      | (with_reducible exact spec_RepeatsBehind.mono _ _ _)
      | (with_reducible exact spec_SameRow.mono _ _ _)
      | (with_reducible exact spec_WalksOn.mono _ _ _ _ _ _ _ _ _)
      | (with_reducible exact LeO.refl _)
      | (with_reducible exact LeO.none _)
      | (with_reducible refine LeO.ite ?_ ?_)
      | (with_reducible refine LeO.bind ?_ (fun _ => ?_))
      | exact ih0 _ _ _
      | exact ih1 _ _ _ _ _ _ _ _
      | exact ih2 _ _ _ _ _ _
      | exact ih3 _ _ _ _ _ _
      | exact ih4 _ _ _ _ _ _ _ _
      | exact ih5 _ _ _ _ _ _ _ _ _ _ _
      | exact ih6 _ _ _ _ _ _ _
      | exact ih7 _ _ _ _ _ _ _
      | exact ih8 _ _ _ _ _ _ _ _ _
      | exact ih9 _ _ _ _ _ _
      | exact ih10 _ _ _ _ _ _
      | exact impl_AllWalkEvery.mono _ _ _
      | exact impl_BusiestDay.mono _ _ _ _ _
      | exact impl_MeetingDay.mono _ _ _ _ _ _ _ _ _ _ _ _ _ _ _
      | exact impl_RepeatsBehind.mono _ _ _
      | exact impl_RowOn.mono _ _ _ _
      | exact spec_AllWalkEvery.mono _ _ _
      | exact spec_BusiestDay.mono _ _ _ _ _
      | exact spec_MeetingDay.mono _ _ _ _ _ _ _ _ _ _ _ _ _ _ _
      | exact spec_P6Row.mono _ _
      | exact spec_P6Walkers.mono _ _ _
      | exact spec_RepeatsBehind.mono _ _ _
      | exact spec_SameRow.mono _ _ _
      | exact spec_WalksOn.mono _ _ _ _ _ _ _ _ _
      | exact LeO.none _
      | refine LeO.ite ?_ ?_
      | refine LeO.bind ?_ (fun _ => ?_)
    · intro y0 y1 y2 y3 y4 y5 y6
      unfold laws_FnRepeats.j6
      repeat' first
      | (with_reducible exact ih0 _ _ _)
      | (with_reducible exact ih1 _ _ _ _ _ _ _ _)
      | (with_reducible exact ih2 _ _ _ _ _ _)
      | (with_reducible exact ih3 _ _ _ _ _ _)
      | (with_reducible exact ih4 _ _ _ _ _ _ _ _)
      | (with_reducible exact ih5 _ _ _ _ _ _ _ _ _ _ _)
      | (with_reducible exact ih6 _ _ _ _ _ _ _)
      | (with_reducible exact ih7 _ _ _ _ _ _ _)
      | (with_reducible exact ih8 _ _ _ _ _ _ _ _ _)
      | (with_reducible exact ih9 _ _ _ _ _ _)
      | (with_reducible exact ih10 _ _ _ _ _ _)
      | (with_reducible exact impl_AllWalkEvery.mono _ _ _)
      | (with_reducible exact impl_BusiestDay.mono _ _ _ _ _)
      | (with_reducible exact impl_MeetingDay.mono _ _ _ _ _ _ _ _ _ _ _ _ _ _ _)
      | (with_reducible exact impl_RepeatsBehind.mono _ _ _)
      | (with_reducible exact impl_RowOn.mono _ _ _ _)
      | (with_reducible exact spec_AllWalkEvery.mono _ _ _)
      | (with_reducible exact spec_BusiestDay.mono _ _ _ _ _)
      | (with_reducible exact spec_MeetingDay.mono _ _ _ _ _ _ _ _ _ _ _ _ _ _ _)
      | (with_reducible exact spec_P6Row.mono _ _)
      | (with_reducible exact spec_P6Walkers.mono _ _ _)
      | (with_reducible exact spec_RepeatsBehind.mono _ _ _)
      | (with_reducible exact spec_SameRow.mono _ _ _)
      | (with_reducible exact spec_WalksOn.mono _ _ _ _ _ _ _ _ _)
      | (with_reducible exact LeO.refl _)
      | (with_reducible exact LeO.none _)
      | (with_reducible refine LeO.ite ?_ ?_)
      | (with_reducible refine LeO.bind ?_ (fun _ => ?_))
      | exact ih0 _ _ _
      | exact ih1 _ _ _ _ _ _ _ _
      | exact ih2 _ _ _ _ _ _
      | exact ih3 _ _ _ _ _ _
      | exact ih4 _ _ _ _ _ _ _ _
      | exact ih5 _ _ _ _ _ _ _ _ _ _ _
      | exact ih6 _ _ _ _ _ _ _
      | exact ih7 _ _ _ _ _ _ _
      | exact ih8 _ _ _ _ _ _ _ _ _
      | exact ih9 _ _ _ _ _ _
      | exact ih10 _ _ _ _ _ _
      | exact impl_AllWalkEvery.mono _ _ _
      | exact impl_BusiestDay.mono _ _ _ _ _
      | exact impl_MeetingDay.mono _ _ _ _ _ _ _ _ _ _ _ _ _ _ _
      | exact impl_RepeatsBehind.mono _ _ _
      | exact impl_RowOn.mono _ _ _ _
      | exact spec_AllWalkEvery.mono _ _ _
      | exact spec_BusiestDay.mono _ _ _ _ _
      | exact spec_MeetingDay.mono _ _ _ _ _ _ _ _ _ _ _ _ _ _ _
      | exact spec_P6Row.mono _ _
      | exact spec_P6Walkers.mono _ _ _
      | exact spec_RepeatsBehind.mono _ _ _
      | exact spec_SameRow.mono _ _ _
      | exact spec_WalksOn.mono _ _ _ _ _ _ _ _ _
      | exact LeO.none _
      | refine LeO.ite ?_ ?_
      | refine LeO.bind ?_ (fun _ => ?_)
    · intro y0 y1 y2 y3 y4 y5 y6
      unfold laws_FnRepeats.l2
      repeat' first
      | (with_reducible exact ih0 _ _ _)
      | (with_reducible exact ih1 _ _ _ _ _ _ _ _)
      | (with_reducible exact ih2 _ _ _ _ _ _)
      | (with_reducible exact ih3 _ _ _ _ _ _)
      | (with_reducible exact ih4 _ _ _ _ _ _ _ _)
      | (with_reducible exact ih5 _ _ _ _ _ _ _ _ _ _ _)
      | (with_reducible exact ih6 _ _ _ _ _ _ _)
      | (with_reducible exact ih7 _ _ _ _ _ _ _)
      | (with_reducible exact ih8 _ _ _ _ _ _ _ _ _)
      | (with_reducible exact ih9 _ _ _ _ _ _)
      | (with_reducible exact ih10 _ _ _ _ _ _)
      | (with_reducible exact impl_AllWalkEvery.mono _ _ _)
      | (with_reducible exact impl_BusiestDay.mono _ _ _ _ _)
      | (with_reducible exact impl_MeetingDay.mono _ _ _ _ _ _ _ _ _ _ _ _ _ _ _)
      | (with_reducible exact impl_RepeatsBehind.mono _ _ _)
      | (with_reducible exact impl_RowOn.mono _ _ _ _)
      | (with_reducible exact spec_AllWalkEvery.mono _ _ _)
      | (with_reducible exact spec_BusiestDay.mono _ _ _ _ _)
      | (with_reducible exact spec_MeetingDay.mono _ _ _ _ _ _ _ _ _ _ _ _ _ _ _)
      | (with_reducible exact spec_P6Row.mono _ _)
      | (with_reducible exact spec_P6Walkers.mono _ _ _)
      | (with_reducible exact spec_RepeatsBehind.mono _ _ _)
      | (with_reducible exact spec_SameRow.mono _ _ _)
      | (with_reducible exact spec_WalksOn.mono _ _ _ _ _ _ _ _ _)
      | (with_reducible exact LeO.refl _)
      | (with_reducible exact LeO.none _)
      | (with_reducible refine LeO.ite ?_ ?_)
      | (with_reducible refine LeO.bind ?_ (fun _ => ?_))
      | exact ih0 _ _ _
      | exact ih1 _ _ _ _ _ _ _ _
      | exact ih2 _ _ _ _ _ _
      | exact ih3 _ _ _ _ _ _
      | exact ih4 _ _ _ _ _ _ _ _
      | exact ih5 _ _ _ _ _ _ _ _ _ _ _
      | exact ih6 _ _ _ _ _ _ _
      | exact ih7 _ _ _ _ _ _ _
      | exact ih8 _ _ _ _ _ _ _ _ _
      | exact ih9 _ _ _ _ _ _
      | exact ih10 _ _ _ _ _ _
      | exact impl_AllWalkEvery.mono _ _ _
      | exact impl_BusiestDay.mono _ _ _ _ _
      | exact impl_MeetingDay.mono _ _ _ _ _ _ _ _ _ _ _ _ _ _ _
      | exact impl_RepeatsBehind.mono _ _ _
      | exact impl_RowOn.mono _ _ _ _
      | exact spec_AllWalkEvery.mono _ _ _
      | exact spec_BusiestDay.mono _ _ _ _ _
      | exact spec_MeetingDay.mono _ _ _ _ _ _ _ _ _ _ _ _ _ _ _
      | exact spec_P6Row.mono _ _
      | exact spec_P6Walkers.mono _ _ _
      | exact spec_RepeatsBehind.mono _ _ _
      | exact spec_SameRow.mono _ _ _
      | exact spec_WalksOn.mono _ _ _ _ _ _ _ _ _
      | exact LeO.none _
      | refine LeO.ite ?_ ?_
      | refine LeO.bind ?_ (fun _ => ?_)
    · intro y0 y1 y2 y3 y4 y5 y6 y7 y8
      unfold laws_FnRepeats.l3
      repeat' first
      | (with_reducible exact ih0 _ _ _)
      | (with_reducible exact ih1 _ _ _ _ _ _ _ _)
      | (with_reducible exact ih2 _ _ _ _ _ _)
      | (with_reducible exact ih3 _ _ _ _ _ _)
      | (with_reducible exact ih4 _ _ _ _ _ _ _ _)
      | (with_reducible exact ih5 _ _ _ _ _ _ _ _ _ _ _)
      | (with_reducible exact ih6 _ _ _ _ _ _ _)
      | (with_reducible exact ih7 _ _ _ _ _ _ _)
      | (with_reducible exact ih8 _ _ _ _ _ _ _ _ _)
      | (with_reducible exact ih9 _ _ _ _ _ _)
      | (with_reducible exact ih10 _ _ _ _ _ _)
      | (with_reducible exact impl_AllWalkEvery.mono _ _ _)
      | (with_reducible exact impl_BusiestDay.mono _ _ _ _ _)
      | (with_reducible exact impl_MeetingDay.mono _ _ _ _ _ _ _ _ _ _ _ _ _ _ _)
      | (with_reducible exact impl_RepeatsBehind.mono _ _ _)
      | (with_reducible exact impl_RowOn.mono _ _ _ _)
      | (with_reducible exact spec_AllWalkEvery.mono _ _ _)
      | (with_reducible exact spec_BusiestDay.mono _ _ _ _ _)
      | (with_reducible exact spec_MeetingDay.mono _ _ _ _ _ _ _ _ _ _ _ _ _ _ _)
      | (with_reducible exact spec_P6Row.mono _ _)
      | (with_reducible exact spec_P6Walkers.mono _ _ _)
      | (with_reducible exact spec_RepeatsBehind.mono _ _ _)
      | (with_reducible exact spec_SameRow.mono _ _ _)
      | (with_reducible exact spec_WalksOn.mono _ _ _ _ _ _ _ _ _)
      | (with_reducible exact LeO.refl _)
      | (with_reducible exact LeO.none _)
      | (with_reducible refine LeO.ite ?_ ?_)
      | (with_reducible refine LeO.bind ?_ (fun _ => ?_))
      | exact ih0 _ _ _
      | exact ih1 _ _ _ _ _ _ _ _
      | exact ih2 _ _ _ _ _ _
      | exact ih3 _ _ _ _ _ _
      | exact ih4 _ _ _ _ _ _ _ _
      | exact ih5 _ _ _ _ _ _ _ _ _ _ _
      | exact ih6 _ _ _ _ _ _ _
      | exact ih7 _ _ _ _ _ _ _
      | exact ih8 _ _ _ _ _ _ _ _ _
      | exact ih9 _ _ _ _ _ _
      | exact ih10 _ _ _ _ _ _
      | exact impl_AllWalkEvery.mono _ _ _
      | exact impl_BusiestDay.mono _ _ _ _ _
      | exact impl_MeetingDay.mono _ _ _ _ _ _ _ _ _ _ _ _ _ _ _
      | exact impl_RepeatsBehind.mono _ _ _
      | exact impl_RowOn.mono _ _ _ _
      | exact spec_AllWalkEvery.mono _ _ _
      | exact spec_BusiestDay.mono _ _ _ _ _
      | exact spec_MeetingDay.mono _ _ _ _ _ _ _ _ _ _ _ _ _ _ _
      | exact spec_P6Row.mono _ _
      | exact spec_P6Walkers.mono _ _ _
      | exact spec_RepeatsBehind.mono _ _ _
      | exact spec_SameRow.mono _ _ _
      | exact spec_WalksOn.mono _ _ _ _ _ _ _ _ _
      | exact LeO.none _
      | refine LeO.ite ?_ ?_
      | refine LeO.bind ?_ (fun _ => ?_)
    · intro y0 y1 y2 y3 y4 y5
      unfold laws_FnRepeats.j9
      repeat' first
      | (with_reducible exact ih0 _ _ _)
      | (with_reducible exact ih1 _ _ _ _ _ _ _ _)
      | (with_reducible exact ih2 _ _ _ _ _ _)
      | (with_reducible exact ih3 _ _ _ _ _ _)
      | (with_reducible exact ih4 _ _ _ _ _ _ _ _)
      | (with_reducible exact ih5 _ _ _ _ _ _ _ _ _ _ _)
      | (with_reducible exact ih6 _ _ _ _ _ _ _)
      | (with_reducible exact ih7 _ _ _ _ _ _ _)
      | (with_reducible exact ih8 _ _ _ _ _ _ _ _ _)
      | (with_reducible exact ih9 _ _ _ _ _ _)
      | (with_reducible exact ih10 _ _ _ _ _ _)
      | (with_reducible exact impl_AllWalkEvery.mono _ _ _)
      | (with_reducible exact impl_BusiestDay.mono _ _ _ _ _)
      | (with_reducible exact impl_MeetingDay.mono _ _ _ _ _ _ _ _ _ _ _ _ _ _ _)
      | (with_reducible exact impl_RepeatsBehind.mono _ _ _)
      | (with_reducible exact impl_RowOn.mono _ _ _ _)
      | (with_reducible exact spec_AllWalkEvery.mono _ _ _)
      | (with_reducible exact spec_BusiestDay.mono _ _ _ _ _)
      | (with_reducible exact spec_MeetingDay.mono _ _ _ _ _ _ _ _ _ _ _ _ _ _ _)
      | (with_reducible exact spec_P6Row.mono _ _)
      | (with_reducible exact spec_P6Walkers.mono _ _ _)
      | (with_reducible exact spec_RepeatsBehind.mono _ _ _)
      | (with_reducible exact spec_SameRow.mono _ _ _)
      | (with_reducible exact spec_WalksOn.mono _ _ _ _ _ _ _ _ _)
      | (with_reducible exact LeO.refl _)
      | (with_reducible exact LeO.none _)
      | (with_reducible refine LeO.ite ?_ ?_)
      | (with_reducible refine LeO.bind ?_ (fun _ => ?_))
      | exact ih0 _ _ _
      | exact ih1 _ _ _ _ _ _ _ _
      | exact ih2 _ _ _ _ _ _
      | exact ih3 _ _ _ _ _ _
      | exact ih4 _ _ _ _ _ _ _ _
      | exact ih5 _ _ _ _ _ _ _ _ _ _ _
      | exact ih6 _ _ _ _ _ _ _
      | exact ih7 _ _ _ _ _ _ _
      | exact ih8 _ _ _ _ _ _ _ _ _
      | exact ih9 _ _ _ _ _ _
      | exact ih10 _ _ _ _ _ _
      | exact impl_AllWalkEvery.mono _ _ _
      | exact impl_BusiestDay.mono _ _ _ _ _
      | exact impl_MeetingDay.mono _ _ _ _ _ _ _ _ _ _ _ _ _ _ _
      | exact impl_RepeatsBehind.mono _ _ _
      | exact impl_RowOn.mono _ _ _ _
      | exact spec_AllWalkEvery.mono _ _ _
      | exact spec_BusiestDay.mono _ _ _ _ _
      | exact spec_MeetingDay.mono _ _ _ _ _ _ _ _ _ _ _ _ _ _ _
      | exact spec_P6Row.mono _ _
      | exact spec_P6Walkers.mono _ _ _
      | exact spec_RepeatsBehind.mono _ _ _
      | exact spec_SameRow.mono _ _ _
      | exact spec_WalksOn.mono _ _ _ _ _ _ _ _ _
      | exact LeO.none _
      | refine LeO.ite ?_ ?_
      | refine LeO.bind ?_ (fun _ => ?_)
    · intro y0 y1 y2 y3 y4 y5
      unfold laws_FnRepeats.l4
      repeat' first
      | (with_reducible exact ih0 _ _ _)
      | (with_reducible exact ih1 _ _ _ _ _ _ _ _)
      | (with_reducible exact ih2 _ _ _ _ _ _)
      | (with_reducible exact ih3 _ _ _ _ _ _)
      | (with_reducible exact ih4 _ _ _ _ _ _ _ _)
      | (with_reducible exact ih5 _ _ _ _ _ _ _ _ _ _ _)
      | (with_reducible exact ih6 _ _ _ _ _ _ _)
      | (with_reducible exact ih7 _ _ _ _ _ _ _)
      | (with_reducible exact ih8 _ _ _ _ _ _ _ _ _)
      | (with_reducible exact ih9 _ _ _ _ _ _)
      | (with_reducible exact ih10 _ _ _ _ _ _)
      | (with_reducible exact impl_AllWalkEvery.mono _ _ _)
      | (with_reducible exact impl_BusiestDay.mono _ _ _ _ _)
      | (with_reducible exact impl_MeetingDay.mono _ _ _ _ _ _ _ _ _ _ _ _ _ _ _)
      | (with_reducible exact impl_RepeatsBehind.mono _ _ _)
      | (with_reducible exact impl_RowOn.mono _ _ _ _)
      | (with_reducible exact spec_AllWalkEvery.mono _ _ _)
      | (with_reducible exact spec_BusiestDay.mono _ _ _ _ _)
      | (with_reducible exact spec_MeetingDay.mono _ _ _ _ _ _ _ _ _ _ _ _ _ _ _)
      | (with_reducible exact spec_P6Row.mono _ _)
      | (with_reducible exact spec_P6Walkers.mono _ _ _)
      | (with_reducible exact spec_RepeatsBehind.mono _ _ _)
      | (with_reducible exact spec_SameRow.mono _ _ _)
      | (with_reducible exact spec_WalksOn.mono _ _ _ _ _ _ _ _ _)
      | (with_reducible exact LeO.refl _)
      | (with_reducible exact LeO.none _)
      | (with_reducible refine LeO.ite ?_ ?_)
      | (with_reducible refine LeO.bind ?_ (fun _ => ?_))
      | exact ih0 _ _ _
      | exact ih1 _ _ _ _ _ _ _ _
      | exact ih2 _ _ _ _ _ _
      | exact ih3 _ _ _ _ _ _
      | exact ih4 _ _ _ _ _ _ _ _
      | exact ih5 _ _ _ _ _ _ _ _ _ _ _
      | exact ih6 _ _ _ _ _ _ _
      | exact ih7 _ _ _ _ _ _ _
      | exact ih8 _ _ _ _ _ _ _ _ _
      | exact ih9 _ _ _ _ _ _
      | exact ih10 _ _ _ _ _ _
      | exact impl_AllWalkEvery.mono _ _ _
      | exact impl_BusiestDay.mono _ _ _ _ _
      | exact impl_MeetingDay.mono _ _ _ _ _ _ _ _ _ _ _ _ _ _ _
      | exact impl_RepeatsBehind.mono _ _ _
      | exact impl_RowOn.mono _ _ _ _
      | exact spec_AllWalkEvery.mono _ _ _
      | exact spec_BusiestDay.mono _ _ _ _ _
      | exact spec_MeetingDay.mono _ _ _ _ _ _ _ _ _ _ _ _ _ _ _
      | exact spec_P6Row.mono _ _
      | exact spec_P6Walkers.mono _ _ _
      | exact spec_RepeatsBehind.mono _ _ _
      | exact spec_SameRow.mono _ _ _
      | exact spec_WalksOn.mono _ _ _ _ _ _ _ _ _
      | exact LeO.none _
      | refine LeO.ite ?_ ?_
      | refine LeO.bind ?_ (fun _ => ?_)
theorem laws_FnRepeats.mono : ∀ a0 a1 k, LeO (laws_FnRepeats.f k a0 a1) (laws_FnRepeats.f (k + 1) a0 a1) := by
  intro a0 a1 k
  obtain ⟨ih0, ih1, ih2, ih3, ih4, ih5, ih6, ih7, ih8, ih9, ih10⟩ := laws_FnRepeats.mono_l k
  unfold laws_FnRepeats.f
  repeat' first
      | (with_reducible exact ih0 _ _ _)
      | (with_reducible exact ih1 _ _ _ _ _ _ _ _)
      | (with_reducible exact ih2 _ _ _ _ _ _)
      | (with_reducible exact ih3 _ _ _ _ _ _)
      | (with_reducible exact ih4 _ _ _ _ _ _ _ _)
      | (with_reducible exact ih5 _ _ _ _ _ _ _ _ _ _ _)
      | (with_reducible exact ih6 _ _ _ _ _ _ _)
      | (with_reducible exact ih7 _ _ _ _ _ _ _)
      | (with_reducible exact ih8 _ _ _ _ _ _ _ _ _)
      | (with_reducible exact ih9 _ _ _ _ _ _)
      | (with_reducible exact ih10 _ _ _ _ _ _)
      | (with_reducible exact impl_AllWalkEvery.mono _ _ _)
      | (with_reducible exact impl_BusiestDay.mono _ _ _ _ _)
      | (with_reducible exact impl_MeetingDay.mono _ _ _ _ _ _ _ _ _ _ _ _ _ _ _)
      | (with_reducible exact impl_RepeatsBehind.mono _ _ _)
      | (with_reducible exact impl_RowOn.mono _ _ _ _)
      | (with_reducible exact spec_AllWalkEvery.mono _ _ _)
      | (with_reducible exact spec_BusiestDay.mono _ _ _ _ _)
      | (with_reducible exact spec_MeetingDay.mono _ _ _ _ _ _ _ _ _ _ _ _ _ _ _)
      | (with_reducible exact spec_P6Row.mono _ _)
      | (with_reducible exact spec_P6Walkers.mono _ _ _)
      | (with_reducible exact spec_RepeatsBehind.mono _ _ _)
      | (with_reducible exact spec_SameRow.mono _ _ _)
      | (with_reducible exact spec_WalksOn.mono _ _ _ _ _ _ _ _ _)
      | (with_reducible exact LeO.refl _)
      | (with_reducible exact LeO.none _)
      | (with_reducible refine LeO.ite ?_ ?_)
      | (with_reducible refine LeO.bind ?_ (fun _ => ?_))
      | exact ih0 _ _ _
      | exact ih1 _ _ _ _ _ _ _ _
      | exact ih2 _ _ _ _ _ _
      | exact ih3 _ _ _ _ _ _
      | exact ih4 _ _ _ _ _ _ _ _
      | exact ih5 _ _ _ _ _ _ _ _ _ _ _
      | exact ih6 _ _ _ _ _ _ _
      | exact ih7 _ _ _ _ _ _ _
      | exact ih8 _ _ _ _ _ _ _ _ _
      | exact ih9 _ _ _ _ _ _
      | exact ih10 _ _ _ _ _ _
      | exact impl_AllWalkEvery.mono _ _ _
      | exact impl_BusiestDay.mono _ _ _ _ _
      | exact impl_MeetingDay.mono _ _ _ _ _ _ _ _ _ _ _ _ _ _ _
      | exact impl_RepeatsBehind.mono _ _ _
      | exact impl_RowOn.mono _ _ _ _
      | exact spec_AllWalkEvery.mono _ _ _
      | exact spec_BusiestDay.mono _ _ _ _ _
      | exact spec_MeetingDay.mono _ _ _ _ _ _ _ _ _ _ _ _ _ _ _
      | exact spec_P6Row.mono _ _
      | exact spec_P6Walkers.mono _ _ _
      | exact spec_RepeatsBehind.mono _ _ _
      | exact spec_SameRow.mono _ _ _
      | exact spec_WalksOn.mono _ _ _ _ _ _ _ _ _
      | exact LeO.none _
      | refine LeO.ite ?_ ?_
      | refine LeO.bind ?_ (fun _ => ?_)
def laws_FnRepeats.T54 : Bool × List (List Nat × List Nat) := (true, [([], []), ([], []), ([1], [1]), ([2], [2]), ([], []), ([4], [4]), ([5], [5]), ([], []), ([0, 3, 6, 7], [0, 3, 6, 7]), ([8], [8]), ([9], [9]), ([9], [9]), ([10, 8, 0, 1, 2, 3, 4, 5, 6, 7, 8, 9, 10], [10]), ([11, 12, 0, 1, 2, 3, 4, 5, 6, 7, 8, 9, 10, 11, 12], [11])])
def laws_FnRepeats.B54 : List Nat := [0, 0, 2, 6, 0, 16, 48, 0, 255, 511, 1023, 1023, 2047, 8191]
theorem laws_FnRepeats.tab54 : rtab .any (opsOf Try.f7 54) = laws_FnRepeats.T54 := by kernel_rfl
theorem laws_FnRepeats.bits54 : waitsOk laws_FnRepeats.T54.2 laws_FnRepeats.B54 = true := by kernel_rfl
def laws_FnRepeats.T55 : Bool × List (List Nat × List Nat) := (true, [([], []), ([], []), ([1], [1]), ([2], [2]), ([], []), ([4], [4]), ([5], [5]), ([], []), ([0, 3, 6, 7], [0, 3, 6, 7]), ([8], [8]), ([9], [9]), ([9], [9]), ([10, 8, 0, 1, 2, 3, 4, 5, 6, 7, 8, 9, 10], [10]), ([11, 12, 0, 1, 2, 3, 4, 5, 6, 7, 8, 9, 10, 11, 12], [11])])
def laws_FnRepeats.B55 : List Nat := [0, 0, 2, 6, 0, 16, 48, 0, 255, 511, 1023, 1023, 2047, 8191]
theorem laws_FnRepeats.tab55 : rtab .any (opsOf Try.f7 55) = laws_FnRepeats.T55 := by kernel_rfl
theorem laws_FnRepeats.bits55 : waitsOk laws_FnRepeats.T55.2 laws_FnRepeats.B55 = true := by kernel_rfl
theorem laws_FnRepeats.dead_j1 : ∀ k y0 y1 y2 y3 y4 y5 y6, ¬ laws_FnRepeats.j1 k y0 y1 y2 y3 y4 y5 y6 true = some true
  | 0, _, _, _, _, _, _, _ => by simp [laws_FnRepeats.j1]
  | k + 1, _, _, _, _, _, _, _ => by simp [laws_FnRepeats.j1]
theorem laws_FnRepeats.dead_j2 : ∀ k y0 y1 y2 y3 y4, ¬ laws_FnRepeats.j2 k y0 y1 y2 y3 y4 true = some true
  | 0, _, _, _, _, _ => by simp [laws_FnRepeats.j2]
  | k + 1, _, _, _, _, _ => by simp [laws_FnRepeats.j2]
theorem laws_FnRepeats.dead_j5 : ∀ k y0 y1 y2 y3 y4 y5 y6 y7 y8 y9, ¬ laws_FnRepeats.j5 k y0 y1 y2 y3 y4 y5 y6 y7 y8 y9 true = some true
  | 0, _, _, _, _, _, _, _, _, _, _ => by simp [laws_FnRepeats.j5]
  | k + 1, _, _, _, _, _, _, _, _, _, _ => by simp [laws_FnRepeats.j5]
theorem laws_FnRepeats.dead_j6 : ∀ k y0 y1 y2 y3 y4 y5, ¬ laws_FnRepeats.j6 k y0 y1 y2 y3 y4 y5 true = some true
  | 0, _, _, _, _, _, _ => by simp [laws_FnRepeats.j6]
  | k + 1, _, _, _, _, _, _ => by simp [laws_FnRepeats.j6]
theorem laws_FnRepeats.dead_j9 : ∀ k y0 y1 y2 y3 y4, ¬ laws_FnRepeats.j9 k y0 y1 y2 y3 y4 true = some true
  | 0, _, _, _, _, _ => by simp [laws_FnRepeats.j9]
  | k + 1, _, _, _, _, _ => by simp [laws_FnRepeats.j9]
end Go.Proofs.Ythbblaapmmhclaa.G
