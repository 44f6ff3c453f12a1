import Derived.Test.YthbblaapmmhclaaYG0
import Derived.Test.YthbblaapmmhclaaYFDayOf
import Derived.Test.YthbblaapmmhclaaYFDaysOf
import Derived.Test.YthbblaapmmhclaaYFUpright
import Derived.Test.YthbblaapmmhclaaYFVRow
import Derived.Test.YthbblaapmmhclaaYFVWalk
import Derived.Test.YthbblaapmmhclaaYG3
import Derived.Test.YthbblaapmmhclaaYG4
import Derived.Test.YthbblaapmmhclaaYG5
import Derived.Test.YthbblaapmmhclaaYG6
namespace Go.Proofs.Ythbblaapmmhclaa.G
open Go.RowKit Go.Proofs.YthbblaapmmhclaaW.PrintWords Go.Proofs.YthbblaapmmhclaaW.PrintLast Go.Proofs.YthbblaapmmhclaaW.PrintMore
attribute [local go_sem] max2_int min2_int max_two min_two max_three min_three max_four min_four
set_option linter.unusedVariables false
set_option linter.unusedSimpArgs false
mutual
def laws_FnTurned.j0 : Nat → List Int → List Int → Bool → Option (Bool)
  | 0, _, _, _ => none
  | k + 1, x0, x1, x50 => if x50 = true then (some true) else ((spec_P6Row.f k x0).bind fun t386 => ((spec_P6Walkers.f k x1 (t386.length : Int)).bind fun t389 => ((impl_RowText.f k t386).bind fun t392 => ((impl_ReadRow.f k t392).bind fun bt393 => ((spec_P6Pick.f x1 (t386.length : Int)).bind fun t397 => ((spec_P6Pick.f x0 15).bind fun t398 => (if bt393.2 = 0 then ((spec_SameRow.f k bt393.1 t386).bind fun t399 => (if t399 = true then ((impl_SameRow.f k bt393.1 t386).bind fun t400 => (if t400 = true then ((impl_ValidRow.f t386).bind fun t401 => (if t401 = true then ((impl_ValidWalkers.f (t386.length : Int) t389).bind fun t402 => (laws_FnTurned.j1 k x0 t386 (t386.length : Int) t389 t397 (wrap64 (t398 - 7)) (!t402))) else (laws_FnTurned.j1 k x0 t386 (t386.length : Int) t389 t397 (wrap64 (t398 - 7)) true))) else (laws_FnTurned.j1 k x0 t386 (t386.length : Int) t389 t397 (wrap64 (t398 - 7)) true))) else (laws_FnTurned.j1 k x0 t386 (t386.length : Int) t389 t397 (wrap64 (t398 - 7)) true))) else (laws_FnTurned.j1 k x0 t386 (t386.length : Int) t389 t397 (wrap64 (t398 - 7)) true))))))))
def laws_FnTurned.j1 : Nat → List Int → List Int → Int → List (S53) → Int → Int → Bool → Option (Bool)
  | 0, _, _, _, _, _, _, _ => none
  | k + 1, x0, x5, x6, x7, x10, x11, x94 => if x94 = true then (some false) else (laws_FnTurned.l0 k x0 x5 x6 x7 x10 x11 x5 0)
def laws_FnTurned.l0 : Nat → List Int → List Int → Int → List (S53) → Int → Int → List Int → Int → Option (Bool)
  | 0, _, _, _, _, _, _, _, _ => none
  | k + 1, x0, x5, x6, x7, x10, x11, x12, x13 => if x13 < 8 then ((impl_TurnBottle.f k x12 x10 x11).bind fun bt403 => ((spec_TurnBottle.f k x12 x10 x11).bind fun bt407 => (if bt403.2 = bt407.2 then (if bt403.2 = 0 then ((spec_SameRow.f k bt403.1 bt407.1).bind fun t411 => (if t411 = true then (laws_FnTurned.l0 k x0 x5 x6 x7 x10 x11 bt407.1 (wrap64 (x13 + 1))) else (some false))) else (some false)) else (some false)))) else ((spec_P6Pick.f x0 40).bind fun t412 => ((impl_RowOn.f k x5 x7 t412).bind fun bt413 => ((spec_RowOn.f k x5 x7 t412).bind fun bt417 => ((impl_DaysOf.f k x5 x7 0 t412).bind fun bt421 => ((spec_SameRow.f k x12 x5).bind fun t425 => (if t425 = true then (if bt413.2 = bt417.2 then (if bt413.2 = 0 then ((spec_SameRow.f k bt413.1 bt417.1).bind fun t426 => (if t426 = true then (if bt421.2 = 0 then ((spec_SameRow.f k bt421.1 bt417.1).bind fun t427 => (laws_FnTurned.j3 k x5 x6 x7 t412 bt417.1 (!t427))) else (laws_FnTurned.j3 k x5 x6 x7 t412 bt417.1 true)) else (laws_FnTurned.j3 k x5 x6 x7 t412 bt417.1 true))) else (laws_FnTurned.j3 k x5 x6 x7 t412 bt417.1 true)) else (laws_FnTurned.j3 k x5 x6 x7 t412 bt417.1 true)) else (laws_FnTurned.j3 k x5 x6 x7 t412 bt417.1 true)))))))
def laws_FnTurned.j3 : Nat → List Int → Int → List (S53) → Int → List Int → Bool → Option (Bool)
  | 0, _, _, _, _, _, _ => none
  | k + 1, x5, x6, x7, x18, x21, x179 => if x179 = true then (some false) else (laws_FnTurned.l1 k x5 x6 x7 x18 x21 x5 (([] : List Int)) 0)
def laws_FnTurned.l1 : Nat → List Int → Int → List (S53) → Int → List Int → List Int → List Int → Int → Option (Bool)
  | 0, _, _, _, _, _, _, _, _ => none
  | k + 1, x5, x6, x7, x18, x21, x25, x26, x27 => if x27 ≤ x18 then ((impl_DayOf.f k x25 x7 x27).bind fun bt431 => ((spec_DayOf.f k x25 x7 x27).bind fun bt435 => (if bt431.2 = bt435.2 then (if bt431.2 = 0 then ((spec_SameRow.f k bt431.1 bt435.1).bind fun t439 => (laws_FnTurned.j5 k x5 x6 x7 x18 x21 x26 x27 bt435.1 (!t439))) else (laws_FnTurned.j5 k x5 x6 x7 x18 x21 x26 x27 bt435.1 true)) else (laws_FnTurned.j5 k x5 x6 x7 x18 x21 x26 x27 bt435.1 true)))) else ((impl_UprightDays.f k x5 x7 0 x18).bind fun bt444 => ((impl_NeverTurned.f k x6 x7).bind fun bt448 => ((spec_NeverTurned.f k x6 x7).bind fun bt452 => ((spec_SameRow.f k x25 x21).bind fun t456 => (if t456 = true then (if bt444.2 = 0 then ((spec_SameNumbers.f k bt444.1 x26).bind fun t457 => (if t457 = true then (if bt448.2 = bt452.2 then (if bt448.2 = 0 then ((spec_SameNumbers.f k bt448.1 bt452.1).bind fun t458 => (laws_FnTurned.j7 k x5 x6 x7 x21 bt452.1 (!t458))) else (laws_FnTurned.j7 k x5 x6 x7 x21 bt452.1 true)) else (laws_FnTurned.j7 k x5 x6 x7 x21 bt452.1 true)) else (laws_FnTurned.j7 k x5 x6 x7 x21 bt452.1 true))) else (laws_FnTurned.j7 k x5 x6 x7 x21 bt452.1 true)) else (laws_FnTurned.j7 k x5 x6 x7 x21 bt452.1 true))))))
def laws_FnTurned.j5 : Nat → List Int → Int → List (S53) → Int → List Int → List Int → Int → List Int → Bool → Option (Bool)
  | 0, _, _, _, _, _, _, _, _, _ => none
  | k + 1, x5, x6, x7, x18, x21, x26, x27, x30, x213 => if x213 = true then (some false) else (laws_FnTurned.l2 k x5 x6 x7 x18 x21 x30 x26 x27 true 0)
def laws_FnTurned.l2 : Nat → List Int → Int → List (S53) → Int → List Int → List Int → List Int → Int → Bool → Int → Option (Bool)
  | 0, _, _, _, _, _, _, _, _, _, _ => none
  | k + 1, x5, x6, x7, x18, x21, x25, x26, x27, x32, x33 => if x33 < (x25.length : Int) then (if x32 = true then (if 0 ≤ x33 then (laws_FnTurned.l2 k x5 x6 x7 x18 x21 x25 x26 x27 ((rd x25 x33) == 0) (wrap64 (x33 + 1))) else (none)) else (laws_FnTurned.l2 k x5 x6 x7 x18 x21 x25 x26 x27 false (wrap64 (x33 + 1)))) else (if x32 = true then (if x26.length < 17592186044416 then (laws_FnTurned.l1 k x5 x6 x7 x18 x21 x25 (x26 ++ [x27]) (wrap64 (x27 + 1))) else (none)) else (laws_FnTurned.l1 k x5 x6 x7 x18 x21 x25 x26 (wrap64 (x27 + 1))))
def laws_FnTurned.j7 : Nat → List Int → Int → List (S53) → List Int → List Int → Bool → Option (Bool)
  | 0, _, _, _, _, _, _ => none
  | k + 1, x5, x6, x7, x21, x38, x281 => if x281 = true then (some false) else (laws_FnTurned.l3 k x5 x6 x7 x21 x38 0)
def laws_FnTurned.l3 : Nat → List Int → Int → List (S53) → List Int → List Int → Int → Option (Bool)
  | 0, _, _, _, _, _, _ => none
  | k + 1, x5, x6, x7, x21, x38, x40 => if x40 < x6 then (laws_FnTurned.l4 k x5 x6 x7 x21 x38 x40 0 0) else (some true)
def laws_FnTurned.l4 : Nat → List Int → Int → List (S53) → List Int → List Int → Int → Int → Int → Option (Bool)
  | 0, _, _, _, _, _, _, _, _ => none
  | k + 1, x5, x6, x7, x21, x38, x40, x41, x42 => if x42 < (x7.length : Int) then (if 0 ≤ x42 then ((impl_VisitsOf.f k x6 ((rd_T53 x7 x42).f0) ((rd_T53 x7 x42).f1) ((rd_T53 x7 x42).f2) ((rd_T53 x7 x42).f3) ((rd_T53 x7 x42).f4) ((rd_T53 x7 x42).f5)).bind fun bt460 => (if bt460.2 = 0 then (if (bt460.1.length : Int) = x6 then (if 0 ≤ x40 then (if x40 < (bt460.1.length : Int) then (laws_FnTurned.l4 k x5 x6 x7 x21 x38 x40 (wrap64 (x41 + (rd bt460.1 x40))) (wrap64 (x42 + 1))) else (none)) else (none)) else (some false)) else (some false))) else (none)) else ((spec_HasNumber.f k x38 x40).bind fun t465 => (if (t465 != (x41 == 0)) = true then (some false) else (if x41 = 0 then (if 0 ≤ x40 then (if x40 < (x21.length : Int) then (if x40 < (x5.length : Int) then (if (rd x21 x40) = (rd x5 x40) then (laws_FnTurned.l3 k x5 x6 x7 x21 x38 (wrap64 (x40 + 1))) else (some false)) else (none)) else (none)) else (none)) else (laws_FnTurned.l3 k x5 x6 x7 x21 x38 (wrap64 (x40 + 1))))))
end
def laws_FnTurned.f (k : Nat) (l0 : List Int) (l1 : List Int) : Option (Bool) := (laws_f6big.f l0).bind fun t384 => (if t384 = true then (laws_FnTurned.j0 k l0 l1 true) else ((laws_f6big.f l1).bind fun t385 => (laws_FnTurned.j0 k l0 l1 t385)))
theorem laws_FnTurned.mono_l : ∀ k, (∀ y0 y1 y2, LeO (laws_FnTurned.j0 k y0 y1 y2) (laws_FnTurned.j0 (k + 1) y0 y1 y2)) ∧ (∀ y0 y1 y2 y3 y4 y5 y6, LeO (laws_FnTurned.j1 k y0 y1 y2 y3 y4 y5 y6) (laws_FnTurned.j1 (k + 1) y0 y1 y2 y3 y4 y5 y6)) ∧ (∀ y0 y1 y2 y3 y4 y5 y6 y7, LeO (laws_FnTurned.l0 k y0 y1 y2 y3 y4 y5 y6 y7) (laws_FnTurned.l0 (k + 1) y0 y1 y2 y3 y4 y5 y6 y7)) ∧ (∀ y0 y1 y2 y3 y4 y5, LeO (laws_FnTurned.j3 k y0 y1 y2 y3 y4 y5) (laws_FnTurned.j3 (k + 1) y0 y1 y2 y3 y4 y5)) ∧ (∀ y0 y1 y2 y3 y4 y5 y6 y7, LeO (laws_FnTurned.l1 k y0 y1 y2 y3 y4 y5 y6 y7) (laws_FnTurned.l1 (k + 1) y0 y1 y2 y3 y4 y5 y6 y7)) ∧ (∀ y0 y1 y2 y3 y4 y5 y6 y7 y8, LeO (laws_FnTurned.j5 k y0 y1 y2 y3 y4 y5 y6 y7 y8) (laws_FnTurned.j5 (k + 1) y0 y1 y2 y3 y4 y5 y6 y7 y8)) ∧ (∀ y0 y1 y2 y3 y4 y5 y6 y7 y8 y9, LeO (laws_FnTurned.l2 k y0 y1 y2 y3 y4 y5 y6 y7 y8 y9) (laws_FnTurned.l2 (k + 1) y0 y1 y2 y3 y4 y5 y6 y7 y8 y9)) ∧ (∀ y0 y1 y2 y3 y4 y5, LeO (laws_FnTurned.j7 k y0 y1 y2 y3 y4 y5) (laws_FnTurned.j7 (k + 1) y0 y1 y2 y3 y4 y5)) ∧ (∀ y0 y1 y2 y3 y4 y5, LeO (laws_FnTurned.l3 k y0 y1 y2 y3 y4 y5) (laws_FnTurned.l3 (k + 1) y0 y1 y2 y3 y4 y5)) ∧ (∀ y0 y1 y2 y3 y4 y5 y6 y7, LeO (laws_FnTurned.l4 k y0 y1 y2 y3 y4 y5 y6 y7) (laws_FnTurned.l4 (k + 1) y0 y1 y2 y3 y4 y5 y6 y7))
  | 0 => ⟨fun _ _ _ r h => by simp [laws_FnTurned.j0] at h, fun _ _ _ _ _ _ _ r h => by simp [laws_FnTurned.j1] at h, fun _ _ _ _ _ _ _ _ r h => by simp [laws_FnTurned.l0] at h, fun _ _ _ _ _ _ r h => by simp [laws_FnTurned.j3] at h, fun _ _ _ _ _ _ _ _ r h => by simp [laws_FnTurned.l1] at h, fun _ _ _ _ _ _ _ _ _ r h => by simp [laws_FnTurned.j5] at h, fun _ _ _ _ _ _ _ _ _ _ r h => by simp [laws_FnTurned.l2] at h, fun _ _ _ _ _ _ r h => by simp [laws_FnTurned.j7] at h, fun _ _ _ _ _ _ r h => by simp [laws_FnTurned.l3] at h, fun _ _ _ _ _ _ _ _ r h => by simp [laws_FnTurned.l4] at h⟩
  | k + 1 => by
    obtain ⟨ih0, ih1, ih2, ih3, ih4, ih5, ih6, ih7, ih8, ih9⟩ := laws_FnTurned.mono_l k
    refine ⟨?_, ?_, ?_, ?_, ?_, ?_, ?_, ?_, ?_, ?_⟩
    · intro y0 y1 y2
      unfold laws_FnTurned.j0
      repeat' first
      | (with_reducible exact ih0 _ _ _)
      | (with_reducible exact ih1 _ _ _ _ _ _ _)
      | (with_reducible exact ih2 _ _ _ _ _ _ _ _)
      | (with_reducible exact ih3 _ _ _ _ _ _)
      | (with_reducible exact ih4 _ _ _ _ _ _ _ _)
      | (with_reducible exact ih5 _ _ _ _ _ _ _ _ _)
      | (with_reducible exact ih6 _ _ _ _ _ _ _ _ _ _)
      | (with_reducible exact ih7 _ _ _ _ _ _)
      | (with_reducible exact ih8 _ _ _ _ _ _)
      | (with_reducible exact ih9 _ _ _ _ _ _ _ _)
      | (with_reducible exact impl_DayOf.mono _ _ _ _)
      | (with_reducible exact impl_DaysOf.mono _ _ _ _ _)
      | (with_reducible exact impl_NeverTurned.mono _ _ _)
      | (with_reducible exact impl_ReadRow.mono _ _)
      | (with_reducible exact impl_RowOn.mono _ _ _ _)
      | (with_reducible exact impl_RowText.mono _ _)
      | (with_reducible exact impl_SameRow.mono _ _ _)
      | (with_reducible exact impl_TurnBottle.mono _ _ _ _)
      | (with_reducible exact impl_UprightDays.mono _ _ _ _ _)
      | (with_reducible exact impl_VisitsOf.mono _ _ _ _ _ _ _ _)
      | (with_reducible exact spec_DayOf.mono _ _ _ _)
      | (with_reducible exact spec_HasNumber.mono _ _ _)
      | (with_reducible exact spec_NeverTurned.mono _ _ _)
      | (with_reducible exact spec_P6Row.mono _ _)
      | (with_reducible exact spec_P6Walkers.mono _ _ _)
      | (with_reducible exact spec_RowOn.mono _ _ _ _)
      | (with_reducible exact spec_SameNumbers.mono _ _ _)
      | (with_reducible exact spec_SameRow.mono _ _ _)
      | (with_reducible exact spec_TurnBottle.mono _ _ _ _)
      | (with_reducible exact LeO.refl _)
      | (with_reducible exact LeO.none _)
      | (with_reducible refine LeO.ite ?_ ?_)
      | (with_reducible refine LeO.bind ?_ (fun _ => ?_))
      | exact ih0 _ _ _
      | exact ih1 _ _ _ _ _ _ _
      | exact ih2 _ _ _ _ _ _ _ _
      | exact ih3 _ _ _ _ _ _
      | exact ih4 _ _ _ _ _ _ _ _
      | exact ih5 _ _ _ _ _ _ _ _ _
      | exact ih6 _ _ _ _ _ _ _ _ _ _
      | exact ih7 _ _ _ _ _ _
      | exact ih8 _ _ _ _ _ _
      | exact ih9 _ _ _ _ _ _ _ _
      | exact impl_DayOf.mono _ _ _ _
      | exact impl_DaysOf.mono _ _ _ _ _
      | exact impl_NeverTurned.mono _ _ _
      | exact impl_ReadRow.mono _ _
      | exact impl_RowOn.mono _ _ _ _
      | exact impl_RowText.mono _ _
      | exact impl_SameRow.mono _ _ _
      | exact impl_TurnBottle.mono _ _ _ _
      | exact impl_UprightDays.mono _ _ _ _ _
      | exact impl_VisitsOf.mono _ _ _ _ _ _ _ _
      | exact spec_DayOf.mono _ _ _ _
      | exact spec_HasNumber.mono _ _ _
      | exact spec_NeverTurned.mono _ _ _
      | exact spec_P6Row.mono _ _
      | exact spec_P6Walkers.mono _ _ _
      | exact spec_RowOn.mono _ _ _ _
      | exact spec_SameNumbers.mono _ _ _
      | exact spec_SameRow.mono _ _ _
      | exact spec_TurnBottle.mono _ _ _ _
      | exact LeO.none _
      | refine LeO.ite ?_ ?_
      | refine LeO.bind ?_ (fun _ => ?_)
    · intro y0 y1 y2 y3 y4 y5 y6
      unfold laws_FnTurned.j1
      repeat' first
      | (with_reducible exact ih0 _ _ _)
      | (with_reducible exact ih1 _ _ _ _ _ _ _)
      | (with_reducible exact ih2 _ _ _ _ _ _ _ _)
      | (with_reducible exact ih3 _ _ _ _ _ _)
      | (with_reducible exact ih4 _ _ _ _ _ _ _ _)
      | (with_reducible exact ih5 _ _ _ _ _ _ _ _ _)
      | (with_reducible exact ih6 _ _ _ _ _ _ _ _ _ _)
      | (with_reducible exact ih7 _ _ _ _ _ _)
      | (with_reducible exact ih8 _ _ _ _ _ _)
      | (with_reducible exact ih9 _ _ _ _ _ _ _ _)
      | (with_reducible exact impl_DayOf.mono _ _ _ _)
      | (with_reducible exact impl_DaysOf.mono _ _ _ _ _)
      | (with_reducible exact impl_NeverTurned.mono _ _ _)
      | (with_reducible exact impl_ReadRow.mono _ _)
      | (with_reducible exact impl_RowOn.mono _ _ _ _)
      | (with_reducible exact impl_RowText.mono _ _)
      | (with_reducible exact impl_SameRow.mono _ _ _)
      | (with_reducible exact impl_TurnBottle.mono _ _ _ _)
      | (with_reducible exact impl_UprightDays.mono _ _ _ _ _)
      | (with_reducible exact impl_VisitsOf.mono _ _ _ _ _ _ _ _)
      | (with_reducible exact spec_DayOf.mono _ _ _ _)
      | (with_reducible exact spec_HasNumber.mono _ _ _)
      | (with_reducible exact spec_NeverTurned.mono _ _ _)
      | (with_reducible exact spec_P6Row.mono _ _)
      | (with_reducible exact spec_P6Walkers.mono _ _ _)
      | (with_reducible exact spec_RowOn.mono _ _ _ _)
      | (with_reducible exact spec_SameNumbers.mono _ _ _)
      | (with_reducible exact spec_SameRow.mono _ _ _)
      | (with_reducible exact spec_TurnBottle.mono _ _ _ _)
      | (with_reducible exact LeO.refl _)
      | (with_reducible exact LeO.none _)
      | (with_reducible refine LeO.ite ?_ ?_)
      | (with_reducible refine LeO.bind ?_ (fun _ => ?_))
      | exact ih0 _ _ _
      | exact ih1 _ _ _ _ _ _ _
      | exact ih2 _ _ _ _ _ _ _ _
      | exact ih3 _ _ _ _ _ _
      | exact ih4 _ _ _ _ _ _ _ _
      | exact ih5 _ _ _ _ _ _ _ _ _
      | exact ih6 _ _ _ _ _ _ _ _ _ _
      | exact ih7 _ _ _ _ _ _
      | exact ih8 _ _ _ _ _ _
      | exact ih9 _ _ _ _ _ _ _ _
      | exact impl_DayOf.mono _ _ _ _
      | exact impl_DaysOf.mono _ _ _ _ _
      | exact impl_NeverTurned.mono _ _ _
      | exact impl_ReadRow.mono _ _
      | exact impl_RowOn.mono _ _ _ _
      | exact impl_RowText.mono _ _
      | exact impl_SameRow.mono _ _ _
      | exact impl_TurnBottle.mono _ _ _ _
      | exact impl_UprightDays.mono _ _ _ _ _
      | exact impl_VisitsOf.mono _ _ _ _ _ _ _ _
      | exact spec_DayOf.mono _ _ _ _
      | exact spec_HasNumber.mono _ _ _
      | exact spec_NeverTurned.mono _ _ _
      | exact spec_P6Row.mono _ _
      | exact spec_P6Walkers.mono _ _ _
      | exact spec_RowOn.mono _ _ _ _
      | exact spec_SameNumbers.mono _ _ _
      | exact spec_SameRow.mono _ _ _
      | exact spec_TurnBottle.mono _ _ _ _
      | exact LeO.none _
      | refine LeO.ite ?_ ?_
      | refine LeO.bind ?_ (fun _ => ?_)
    · intro y0 y1 y2 y3 y4 y5 y6 y7
      unfold laws_FnTurned.l0
      repeat' first
      | (with_reducible exact ih0 _ _ _)
      | (with_reducible exact ih1 _ _ _ _ _ _ _)
      | (with_reducible exact ih2 _ _ _ _ _ _ _ _)
      | (with_reducible exact ih3 _ _ _ _ _ _)
      | (with_reducible exact ih4 _ _ _ _ _ _ _ _)
      | (with_reducible exact ih5 _ _ _ _ _ _ _ _ _)
      | (with_reducible exact ih6 _ _ _ _ _ _ _ _ _ _)
      | (with_reducible exact ih7 _ _ _ _ _ _)
      | (with_reducible exact ih8 _ _ _ _ _ _)
      | (with_reducible exact ih9 _ _ _ _ _ _ _ _)
      | (with_reducible exact impl_DayOf.mono _ _ _ _)
      | (with_reducible exact impl_DaysOf.mono _ _ _ _ _)
      | (with_reducible exact impl_NeverTurned.mono _ _ _)
      | (with_reducible exact impl_ReadRow.mono _ _)
      | (with_reducible exact impl_RowOn.mono _ _ _ _)
      | (with_reducible exact impl_RowText.mono _ _)
      | (with_reducible exact impl_SameRow.mono _ _ _)
      | (with_reducible exact impl_TurnBottle.mono _ _ _ _)
      | (with_reducible exact impl_UprightDays.mono _ _ _ _ _)
      | (with_reducible exact impl_VisitsOf.mono _ _ _ _ _ _ _ _)
      | (with_reducible exact spec_DayOf.mono _ _ _ _)
      | (with_reducible exact spec_HasNumber.mono _ _ _)
      | (with_reducible exact spec_NeverTurned.mono _ _ _)
      | (with_reducible exact spec_P6Row.mono _ _)
      | (with_reducible exact spec_P6Walkers.mono _ _ _)
      | (with_reducible exact spec_RowOn.mono _ _ _ _)
      | (with_reducible exact spec_SameNumbers.mono _ _ _)
      | (with_reducible exact spec_SameRow.mono _ _ _)
      | (with_reducible exact spec_TurnBottle.mono _ _ _ _)
      | (with_reducible exact LeO.refl _)
      | (with_reducible exact LeO.none _)
      | (with_reducible refine LeO.ite ?_ ?_)
      | (with_reducible refine LeO.bind ?_ (fun _ => ?_))
      | exact ih0 _ _ _
      | exact ih1 _ _ _ _ _ _ _
      | exact ih2 _ _ _ _ _ _ _ _
      | exact ih3 _ _ _ _ _ _
      | exact ih4 _ _ _ _ _ _ _ _
      | exact ih5 _ _ _ _ _ _ _ _ _
      | exact ih6 _ _ _ _ _ _ _ _ _ _
      | exact ih7 _ _ _ _ _ _
      | exact ih8 _ _ _ _ _ _
      | exact ih9 _ _ _ _ _ _ _ _
      | exact impl_DayOf.mono _ _ _ _
      | exact impl_DaysOf.mono _ _ _ _ _
      | exact impl_NeverTurned.mono _ _ _
      | exact impl_ReadRow.mono _ _
      | exact impl_RowOn.mono _ _ _ _
      | exact impl_RowText.mono _ _
      | exact impl_SameRow.mono _ _ _
      | exact impl_TurnBottle.mono _ _ _ _
      | exact impl_UprightDays.mono _ _ _ _ _
      | exact impl_VisitsOf.mono _ _ _ _ _ _ _ _
      | exact spec_DayOf.mono _ _ _ _
      | exact spec_HasNumber.mono _ _ _
      | exact spec_NeverTurned.mono _ _ _
      | exact spec_P6Row.mono _ _
      | exact spec_P6Walkers.mono _ _ _
      | exact spec_RowOn.mono _ _ _ _
      | exact spec_SameNumbers.mono _ _ _
      | exact spec_SameRow.mono _ _ _
      | exact spec_TurnBottle.mono _ _ _ _
      | exact LeO.none _
      | refine LeO.ite ?_ ?_
      | refine LeO.bind ?_ (fun _ => ?_)
    · intro y0 y1 y2 y3 y4 y5
      unfold laws_FnTurned.j3
      repeat' first
      | (with_reducible exact ih0 _ _ _)
      | (with_reducible exact ih1 _ _ _ _ _ _ _)
      | (with_reducible exact ih2 _ _ _ _ _ _ _ _)
      | (with_reducible exact ih3 _ _ _ _ _ _)
      | (with_reducible exact ih4 _ _ _ _ _ _ _ _)
      | (with_reducible exact ih5 _ _ _ _ _ _ _ _ _)
      | (with_reducible exact ih6 _ _ _ _ _ _ _ _ _ _)
      | (with_reducible exact ih7 _ _ _ _ _ _)
      | (with_reducible exact ih8 _ _ _ _ _ _)
      | (with_reducible exact ih9 _ _ _ _ _ _ _ _)
      | (with_reducible exact impl_DayOf.mono _ _ _ _)
      | (with_reducible exact impl_DaysOf.mono _ _ _ _ _)
      | (with_reducible exact impl_NeverTurned.mono _ _ _)
      | (with_reducible exact impl_ReadRow.mono _ _)
      | (with_reducible exact impl_RowOn.mono _ _ _ _)
      | (with_reducible exact impl_RowText.mono _ _)
      | (with_reducible exact impl_SameRow.mono _ _ _)
      | (with_reducible exact impl_TurnBottle.mono _ _ _ _)
      | (with_reducible exact impl_UprightDays.mono _ _ _ _ _)
      | (with_reducible exact impl_VisitsOf.mono _ _ _ _ _ _ _ _)
      | (with_reducible exact spec_DayOf.mono _ _ _ _)
      | (with_reducible exact spec_HasNumber.mono _ _ _)
      | (with_reducible exact spec_NeverTurned.mono _ _ _)
      | (with_reducible exact spec_P6Row.mono _ _)
      | (with_reducible exact spec_P6Walkers.mono _ _ _)
      | (with_reducible exact spec_RowOn.mono _ _ _ _)
      | (with_reducible exact spec_SameNumbers.mono _ _ _)
      | (with_reducible exact spec_SameRow.mono _ _ _)
      | (with_reducible exact spec_TurnBottle.mono _ _ _ _)
      | (with_reducible exact LeO.refl _)
      | (with_reducible exact LeO.none _)
      | (with_reducible refine LeO.ite ?_ ?_)
      | (with_reducible refine LeO.bind ?_ (fun _ => ?_))
      | exact ih0 _ _ _
      | exact ih1 _ _ _ _ _ _ _
      | exact ih2 _ _ _ _ _ _ _ _
      | exact ih3 _ _ _ _ _ _
      | exact ih4 _ _ _ _ _ _ _ _
      | exact ih5 _ _ _ _ _ _ _ _ _
      | exact ih6 _ _ _ _ _ _ _ _ _ _
      | exact ih7 _ _ _ _ _ _
      | exact ih8 _ _ _ _ _ _
      | exact ih9 _ _ _ _ _ _ _ _
      | exact impl_DayOf.mono _ _ _ _
      | exact impl_DaysOf.mono _ _ _ _ _
      | exact impl_NeverTurned.mono _ _ _
      | exact impl_ReadRow.mono _ _
      | exact impl_RowOn.mono _ _ _ _
      | exact impl_RowText.mono _ _
      | exact impl_SameRow.mono _ _ _
      | exact impl_TurnBottle.mono _ _ _ _
      | exact impl_UprightDays.mono _ _ _ _ _
      | exact impl_VisitsOf.mono _ _ _ _ _ _ _ _
      | exact spec_DayOf.mono _ _ _ _
      | exact spec_HasNumber.mono _ _ _
      | exact spec_NeverTurned.mono _ _ _
      | exact spec_P6Row.mono _ _
      | exact spec_P6Walkers.mono _ _ _
      | exact spec_RowOn.mono _ _ _ _
      | exact spec_SameNumbers.mono _ _ _
      | exact spec_SameRow.mono _ _ _
      | exact spec_TurnBottle.mono _ _ _ _
      | exact LeO.none _
      | refine LeO.ite ?_ ?_
      | refine LeO.bind ?_ (fun _ => ?_)
    · intro y0 y1 y2 y3 y4 y5 y6 y7
      unfold laws_FnTurned.l1
      repeat' first
      | (with_reducible exact ih0 _ _ _)
      | (with_reducible exact ih1 _ _ _ _ _ _ _)
      | (with_reducible exact ih2 _ _ _ _ _ _ _ _)
      | (with_reducible exact ih3 _ _ _ _ _ _)
      | (with_reducible exact ih4 _ _ _ _ _ _ _ _)
      | (with_reducible exact ih5 _ _ _ _ _ _ _ _ _)
      | (with_reducible exact ih6 _ _ _ _ _ _ _ _ _ _)
      | (with_reducible exact ih7 _ _ _ _ _ _)
      | (with_reducible exact ih8 _ _ _ _ _ _)
      | (with_reducible exact ih9 _ _ _ _ _ _ _ _)
      | (with_reducible exact impl_DayOf.mono _ _ _ _)
      | (with_reducible exact impl_DaysOf.mono _ _ _ _ _)
      | (with_reducible exact impl_NeverTurned.mono _ _ _)
      | (with_reducible exact impl_ReadRow.mono _ _)
      | (with_reducible exact impl_RowOn.mono _ _ _ _)
      | (with_reducible exact impl_RowText.mono _ _)
      | (with_reducible exact impl_SameRow.mono _ _ _)
      | (with_reducible exact impl_TurnBottle.mono _ _ _ _)
      | (with_reducible exact impl_UprightDays.mono _ _ _ _ _)
      | (with_reducible exact impl_VisitsOf.mono _ _ _ _ _ _ _ _)
      | (with_reducible exact spec_DayOf.mono _ _ _ _)
      | (with_reducible exact spec_HasNumber.mono _ _ _)
      | (with_reducible exact spec_NeverTurned.mono _ _ _)
      | (with_reducible exact spec_P6Row.mono _ _)
      | (with_reducible exact spec_P6Walkers.mono _ _ _)
      | (with_reducible exact spec_RowOn.mono _ _ _ _)
      | (with_reducible exact spec_SameNumbers.mono _ _ _)
      | (with_reducible exact spec_SameRow.mono _ _ _)
      | (with_reducible exact spec_TurnBottle.mono _ _ _ _)
      | (with_reducible exact LeO.refl _)
      | (with_reducible exact LeO.none _)
      | (with_reducible refine LeO.ite ?_ ?_)
      | (with_reducible refine LeO.bind ?_ (fun _ => ?_))
      | exact ih0 _ _ _
      | exact ih1 _ _ _ _ _ _ _
      | exact ih2 _ _ _ _ _ _ _ _
      | exact ih3 _ _ _ _ _ _
      | exact ih4 _ _ _ _ _ _ _ _
      | exact ih5 _ _ _ _ _ _ _ _ _
      | exact ih6 _ _ _ _ _ _ _ _ _ _
      | exact ih7 _ _ _ _ _ _
      | exact ih8 _ _ _ _ _ _
      | exact ih9 _ _ _ _ _ _ _ _
      | exact impl_DayOf.mono _ _ _ _
      | exact impl_DaysOf.mono _ _ _ _ _
      | exact impl_NeverTurned.mono _ _ _
      | exact impl_ReadRow.mono _ _
      | exact impl_RowOn.mono _ _ _ _
      | exact impl_RowText.mono _ _
      | exact impl_SameRow.mono _ _ _
      | exact impl_TurnBottle.mono _ _ _ _
      | exact impl_UprightDays.mono _ _ _ _ _
      | exact impl_VisitsOf.mono _ _ _ _ _ _ _ _
      | exact spec_DayOf.mono _ _ _ _
      | exact spec_HasNumber.mono _ _ _
      | exact spec_NeverTurned.mono _ _ _
      | exact spec_P6Row.mono _ _
      | exact spec_P6Walkers.mono _ _ _
      | exact spec_RowOn.mono _ _ _ _
      | exact spec_SameNumbers.mono _ _ _
      | exact spec_SameRow.mono _ _ _
      | exact spec_TurnBottle.mono _ _ _ _
      | exact LeO.none _
      | refine LeO.ite ?_ ?_
      | refine LeO.bind ?_ (fun _ => ?_)
    · intro y0 y1 y2 y3 y4 y5 y6 y7 y8
      unfold laws_FnTurned.j5
      repeat' first
      | (with_reducible exact ih0 _ _ _)
      | (with_reducible exact ih1 _ _ _ _ _ _ _)
      | (with_reducible exact ih2 _ _ _ _ _ _ _ _)
      | (with_reducible exact ih3 _ _ _ _ _ _)
      | (with_reducible exact ih4 _ _ _ _ _ _ _ _)
      | (with_reducible exact ih5 _ _ _ _ _ _ _ _ _)
      | (with_reducible exact ih6 _ _ _ _ _ _ _ _ _ _)
      | (with_reducible exact ih7 _ _ _ _ _ _)
      | (with_reducible exact ih8 _ _ _ _ _ _)
      | (with_reducible exact ih9 _ _ _ _ _ _ _ _)
      | (with_reducible exact impl_DayOf.mono _ _ _ _)
      | (with_reducible exact impl_DaysOf.mono _ _ _ _ _)
      | (with_reducible exact impl_NeverTurned.mono _ _ _)
      | (with_reducible exact impl_ReadRow.mono _ _)
      | (with_reducible exact impl_RowOn.mono _ _ _ _)
      | (with_reducible exact impl_RowText.mono _ _)
      | (with_reducible exact impl_SameRow.mono _ _ _)
      | (with_reducible exact impl_TurnBottle.mono _ _ _ _)
      | (with_reducible exact impl_UprightDays.mono _ _ _ _ _)
      | (with_reducible exact impl_VisitsOf.mono _ _ _ _ _ _ _ _)
      | (with_reducible exact spec_DayOf.mono _ _ _ _)
      | (with_reducible exact spec_HasNumber.mono _ _ _)
      | (with_reducible exact spec_NeverTurned.mono _ _ _)
      | (with_reducible exact spec_P6Row.mono _ _)
      | (with_reducible exact spec_P6Walkers.mono _ _ _)
      | (with_reducible exact spec_RowOn.mono _ _ _ _)
      | (with_reducible exact spec_SameNumbers.mono _ _ _)
      | (with_reducible exact spec_SameRow.mono _ _ _)
      | (with_reducible exact spec_TurnBottle.mono _ _ _ _)
      | (with_reducible exact LeO.refl _)
      | (with_reducible exact LeO.none _)
      | (with_reducible refine LeO.ite ?_ ?_)
      | (with_reducible refine LeO.bind ?_ (fun _ => ?_))
      | exact ih0 _ _ _
      | exact ih1 _ _ _ _ _ _ _
      | exact ih2 _ _ _ _ _ _ _ _
      | exact ih3 _ _ _ _ _ _
      | exact ih4 _ _ _ _ _ _ _ _
      | exact ih5 _ _ _ _ _ _ _ _ _
      | exact ih6 _ _ _ _ _ _ _ _ _ _
      | exact ih7 _ _ _ _ _ _
      | exact ih8 _ _ _ _ _ _
      | exact ih9 _ _ _ _ _ _ _ _
      | exact impl_DayOf.mono _ _ _ _
      | exact impl_DaysOf.mono _ _ _ _ _
      | exact impl_NeverTurned.mono _ _ _
      | exact impl_ReadRow.mono _ _
      | exact impl_RowOn.mono _ _ _ _
      | exact impl_RowText.mono _ _
      | exact impl_SameRow.mono _ _ _
      | exact impl_TurnBottle.mono _ _ _ _
      | exact impl_UprightDays.mono _ _ _ _ _
      | exact impl_VisitsOf.mono _ _ _ _ _ _ _ _
      | exact spec_DayOf.mono _ _ _ _
      | exact spec_HasNumber.mono _ _ _
      | exact spec_NeverTurned.mono _ _ _
      | exact spec_P6Row.mono _ _
      | exact spec_P6Walkers.mono _ _ _
      | exact spec_RowOn.mono _ _ _ _
      | exact spec_SameNumbers.mono _ _ _
      | exact spec_SameRow.mono _ _ _
      | exact spec_TurnBottle.mono _ _ _ _
      | exact LeO.none _
      | refine LeO.ite ?_ ?_
      | refine LeO.bind ?_ (fun _ => ?_)
    · intro y0 y1 y2 y3 y4 y5 y6 y7 y8 y9
      unfold laws_FnTurned.l2
      repeat' first
      | (with_reducible exact ih0 _ _ _)
      | (with_reducible exact ih1 _ _ _ _ _ _ _)
      | (with_reducible exact ih2 _ _ _ _ _ _ _ _)
      | (with_reducible exact ih3 _ _ _ _ _ _)
      | (with_reducible exact ih4 _ _ _ _ _ _ _ _)
      | (with_reducible exact ih5 _ _ _ _ _ _ _ _ _)
      | (with_reducible exact ih6 _ _ _ _ _ _ _ _ _ _)
      | (with_reducible exact ih7 _ _ _ _ _ _)
      | (with_reducible exact ih8 _ _ _ _ _ _)
      | (with_reducible exact ih9 _ _ _ _ _ _ _ _)
      | (with_reducible exact impl_DayOf.mono _ _ _ _)
      | (with_reducible exact impl_DaysOf.mono _ _ _ _ _)
      | (with_reducible exact impl_NeverTurned.mono _ _ _)
      | (with_reducible exact impl_ReadRow.mono _ _)
      | (with_reducible exact impl_RowOn.mono _ _ _ _)
      | (with_reducible exact impl_RowText.mono _ _)
      | (with_reducible exact impl_SameRow.mono _ _ _)
      | (with_reducible exact impl_TurnBottle.mono _ _ _ _)
      | (with_reducible exact impl_UprightDays.mono _ _ _ _ _)
      | (with_reducible exact impl_VisitsOf.mono _ _ _ _ _ _ _ _)
      | (with_reducible exact spec_DayOf.mono _ _ _ _)
      | (with_reducible exact spec_HasNumber.mono _ _ _)
      | (with_reducible exact spec_NeverTurned.mono _ _ _)
      | (with_reducible exact spec_P6Row.mono _ _)
      | (with_reducible exact spec_P6Walkers.mono _ _ _)
      | (with_reducible exact spec_RowOn.mono _ _ _ _)
      | (with_reducible exact spec_SameNumbers.mono _ _ _)
      | (with_reducible exact spec_SameRow.mono _ _ _)
      | (with_reducible exact spec_TurnBottle.mono _ _ _ _)
      | (with_reducible exact LeO.refl _)
      | (with_reducible exact LeO.none _)
      | (with_reducible refine LeO.ite ?_ ?_)
      | (with_reducible refine LeO.bind ?_ (fun _ => ?_))
      | exact ih0 _ _ _
      | exact ih1 _ _ _ _ _ _ _
      | exact ih2 _ _ _ _ _ _ _ _
      | exact ih3 _ _ _ _ _ _
      | exact ih4 _ _ _ _ _ _ _ _
      | exact ih5 _ _ _ _ _ _ _ _ _
      | exact ih6 _ _ _ _ _ _ _ _ _ _
      | exact ih7 _ _ _ _ _ _
      | exact ih8 _ _ _ _ _ _
      | exact ih9 _ _ _ _ _ _ _ _
      | exact impl_DayOf.mono _ _ _ _
      | exact impl_DaysOf.mono _ _ _ _ _
      | exact impl_NeverTurned.mono _ _ _
      | exact impl_ReadRow.mono _ _
      | exact impl_RowOn.mono _ _ _ _
      | exact impl_RowText.mono _ _
      | exact impl_SameRow.mono _ _ _
      | exact impl_TurnBottle.mono _ _ _ _
      | exact impl_UprightDays.mono _ _ _ _ _
      | exact impl_VisitsOf.mono _ _ _ _ _ _ _ _
      | exact spec_DayOf.mono _ _ _ _
      | exact spec_HasNumber.mono _ _ _
      | exact spec_NeverTurned.mono _ _ _
      | exact spec_P6Row.mono _ _
      | exact spec_P6Walkers.mono _ _ _
      | exact spec_RowOn.mono _ _ _ _
      | exact spec_SameNumbers.mono _ _ _
      | exact spec_SameRow.mono _ _ _
      | exact spec_TurnBottle.mono _ _ _ _
      | exact LeO.none _
      | refine LeO.ite ?_ ?_
      | refine LeO.bind ?_ (fun _ => ?_)
    · intro y0 y1 y2 y3 y4 y5
      unfold laws_FnTurned.j7
      repeat' first
      | (with_reducible exact ih0 _ _ _)
      | (with_reducible exact ih1 _ _ _ _ _ _ _)
      | (with_reducible exact ih2 _ _ _ _ _ _ _ _)
      | (with_reducible exact ih3 _ _ _ _ _ _)
      | (with_reducible exact ih4 _ _ _ _ _ _ _ _)
      | (with_reducible exact ih5 _ _ _ _ _ _ _ _ _)
      | (with_reducible exact ih6 _ _ _ _ _ _ _ _ _ _)
      | (with_reducible exact ih7 _ _ _ _ _ _)
      | (with_reducible exact ih8 _ _ _ _ _ _)
      | (with_reducible exact ih9 _ _ _ _ _ _ _ _)
      | (with_reducible exact impl_DayOf.mono _ _ _ _)
      | (with_reducible exact impl_DaysOf.mono _ _ _ _ _)
      | (with_reducible exact impl_NeverTurned.mono _ _ _)
      | (with_reducible exact impl_ReadRow.mono _ _)
      | (with_reducible exact impl_RowOn.mono _ _ _ _)
      | (with_reducible exact impl_RowText.mono _ _)
      | (with_reducible exact impl_SameRow.mono _ _ _)
      | (with_reducible exact impl_TurnBottle.mono _ _ _ _)
      | (with_reducible exact impl_UprightDays.mono _ _ _ _ _)
      | (with_reducible exact impl_VisitsOf.mono _ _ _ _ _ _ _ _)
      | (with_reducible exact spec_DayOf.mono _ _ _ _)
      | (with_reducible exact spec_HasNumber.mono _ _ _)
      | (with_reducible exact spec_NeverTurned.mono _ _ _)
      | (with_reducible exact spec_P6Row.mono _ _)
      | (with_reducible exact spec_P6Walkers.mono _ _ _)
      | (with_reducible exact spec_RowOn.mono _ _ _ _)
      | (with_reducible exact spec_SameNumbers.mono _ _ _)
      | (with_reducible exact spec_SameRow.mono _ _ _)
      | (with_reducible exact spec_TurnBottle.mono _ _ _ _)
      | (with_reducible exact LeO.refl _)
      | (with_reducible exact LeO.none _)
      | (with_reducible refine LeO.ite ?_ ?_)
      | (with_reducible refine LeO.bind ?_ (fun _ => ?_))
      | exact ih0 _ _ _
      | exact ih1 _ _ _ _ _ _ _
      | exact ih2 _ _ _ _ _ _ _ _
      | exact ih3 _ _ _ _ _ _
      | exact ih4 _ _ _ _ _ _ _ _
      | exact ih5 _ _ _ _ _ _ _ _ _
      | exact ih6 _ _ _ _ _ _ _ _ _ _
      | exact ih7 _ _ _ _ _ _
      | exact ih8 _ _ _ _ _ _
      | exact ih9 _ _ _ _ _ _ _ _
      | exact impl_DayOf.mono _ _ _ _
      | exact impl_DaysOf.mono _ _ _ _ _
      | exact impl_NeverTurned.mono _ _ _
      | exact impl_ReadRow.mono _ _
      | exact impl_RowOn.mono _ _ _ _
      | exact impl_RowText.mono _ _
      | exact impl_SameRow.mono _ _ _
      | exact impl_TurnBottle.mono _ _ _ _
      | exact impl_UprightDays.mono _ _ _ _ _
      | exact impl_VisitsOf.mono _ _ _ _ _ _ _ _
      | exact spec_DayOf.mono _ _ _ _
      | exact spec_HasNumber.mono _ _ _
      | exact spec_NeverTurned.mono _ _ _
      | exact spec_P6Row.mono _ _
      | exact spec_P6Walkers.mono _ _ _
      | exact spec_RowOn.mono _ _ _ _
      | exact spec_SameNumbers.mono _ _ _
      | exact spec_SameRow.mono _ _ _
      | exact spec_TurnBottle.mono _ _ _ _
      | exact LeO.none _
      | refine LeO.ite ?_ ?_
      | refine LeO.bind ?_ (fun _ => ?_)
    · intro y0 y1 y2 y3 y4 y5
      unfold laws_FnTurned.l3
      repeat' first
      | (with_reducible exact ih0 _ _ _)
      | (with_reducible exact ih1 _ _ _ _ _ _ _)
      | (with_reducible exact ih2 _ _ _ _ _ _ _ _)
      | (with_reducible exact ih3 _ _ _ _ _ _)
      | (with_reducible exact ih4 _ _ _ _ _ _ _ _)
      | (with_reducible exact ih5 _ _ _ _ _ _ _ _ _)
      | (with_reducible exact ih6 _ _ _ _ _ _ _ _ _ _)
      | (with_reducible exact ih7 _ _ _ _ _ _)
      | (with_reducible exact ih8 _ _ _ _ _ _)
      | (with_reducible exact ih9 _ _ _ _ _ _ _ _)
      | (with_reducible exact impl_DayOf.mono _ _ _ _)
      | (with_reducible exact impl_DaysOf.mono _ _ _ _ _)
      | (with_reducible exact impl_NeverTurned.mono _ _ _)
      | (with_reducible exact impl_ReadRow.mono _ _)
      | (with_reducible exact impl_RowOn.mono _ _ _ _)
      | (with_reducible exact impl_RowText.mono _ _)
      | (with_reducible exact impl_SameRow.mono _ _ _)
      | (with_reducible exact impl_TurnBottle.mono _ _ _ _)
      | (with_reducible exact impl_UprightDays.mono _ _ _ _ _)
      | (with_reducible exact impl_VisitsOf.mono _ _ _ _ _ _ _ _)
      | (with_reducible exact spec_DayOf.mono _ _ _ _)
      | (with_reducible exact spec_HasNumber.mono _ _ _)
      | (with_reducible exact spec_NeverTurned.mono _ _ _)
      | (with_reducible exact spec_P6Row.mono _ _)
      | (with_reducible exact spec_P6Walkers.mono _ _ _)
      | (with_reducible exact spec_RowOn.mono _ _ _ _)
      | (with_reducible exact spec_SameNumbers.mono _ _ _)
      | (with_reducible exact spec_SameRow.mono _ _ _)
      | (with_reducible exact spec_TurnBottle.mono _ _ _ _)
      | (with_reducible exact LeO.refl _)
      | (with_reducible exact LeO.none _)
      | (with_reducible refine LeO.ite ?_ ?_)
      | (with_reducible refine LeO.bind ?_ (fun _ => ?_))
      | exact ih0 _ _ _
      | exact ih1 _ _ _ _ _ _ _
      | exact ih2 _ _ _ _ _ _ _ _
      | exact ih3 _ _ _ _ _ _
      | exact ih4 _ _ _ _ _ _ _ _
      | exact ih5 _ _ _ _ _ _ _ _ _
      | exact ih6 _ _ _ _ _ _ _ _ _ _
      | exact ih7 _ _ _ _ _ _
      | exact ih8 _ _ _ _ _ _
      | exact ih9 _ _ _ _ _ _ _ _
      | exact impl_DayOf.mono _ _ _ _
      | exact impl_DaysOf.mono _ _ _ _ _
      | exact impl_NeverTurned.mono _ _ _
      | exact impl_ReadRow.mono _ _
      | exact impl_RowOn.mono _ _ _ _
      | exact impl_RowText.mono _ _
      | exact impl_SameRow.mono _ _ _
      | exact impl_TurnBottle.mono _ _ _ _
      | exact impl_UprightDays.mono _ _ _ _ _
      | exact impl_VisitsOf.mono _ _ _ _ _ _ _ _
      | exact spec_DayOf.mono _ _ _ _
      | exact spec_HasNumber.mono _ _ _
      | exact spec_NeverTurned.mono _ _ _
      | exact spec_P6Row.mono _ _
      | exact spec_P6Walkers.mono _ _ _
      | exact spec_RowOn.mono _ _ _ _
      | exact spec_SameNumbers.mono _ _ _
      | exact spec_SameRow.mono _ _ _
      | exact spec_TurnBottle.mono _ _ _ _
      | exact LeO.none _
      | refine LeO.ite ?_ ?_
      | refine LeO.bind ?_ (fun _ => ?_)
    · intro y0 y1 y2 y3 y4 y5 y6 y7
      unfold laws_FnTurned.l4
      repeat' first
      | (with_reducible exact ih0 _ _ _)
      | (with_reducible exact ih1 _ _ _ _ _ _ _)
      | (with_reducible exact ih2 _ _ _ _ _ _ _ _)
      | (with_reducible exact ih3 _ _ _ _ _ _)
      | (with_reducible exact ih4 _ _ _ _ _ _ _ _)
      | (with_reducible exact ih5 _ _ _ _ _ _ _ _ _)
      | (with_reducible exact ih6 _ _ _ _ _ _ _ _ _ _)
      | (with_reducible exact ih7 _ _ _ _ _ _)
      | (with_reducible exact ih8 _ _ _ _ _ _)
      | (with_reducible exact ih9 _ _ _ _ _ _ _ _)
      | (with_reducible exact impl_DayOf.mono _ _ _ _)
      | (with_reducible exact impl_DaysOf.mono _ _ _ _ _)
      | (with_reducible exact impl_NeverTurned.mono _ _ _)
      | (with_reducible exact impl_ReadRow.mono _ _)
      | (with_reducible exact impl_RowOn.mono _ _ _ _)
      | (with_reducible exact impl_RowText.mono _ _)
      | (with_reducible exact impl_SameRow.mono _ _ _)
      | (with_reducible exact impl_TurnBottle.mono _ _ _ _)
      | (with_reducible exact impl_UprightDays.mono _ _ _ _ _)
      | (with_reducible exact impl_VisitsOf.mono _ _ _ _ _ _ _ _)
      | (with_reducible exact spec_DayOf.mono _ _ _ _)
      | (with_reducible exact spec_HasNumber.mono _ _ _)
      | (with_reducible exact spec_NeverTurned.mono _ _ _)
      | (with_reducible exact spec_P6Row.mono _ _)
      | (with_reducible exact spec_P6Walkers.mono _ _ _)
      | (with_reducible exact spec_RowOn.mono _ _ _ _)
      | (with_reducible exact spec_SameNumbers.mono _ _ _)
      | (with_reducible exact spec_SameRow.mono _ _ _)
      | (with_reducible exact spec_TurnBottle.mono _ _ _ _)
      | (with_reducible exact LeO.refl _)
      | (with_reducible exact LeO.none _)
      | (with_reducible refine LeO.ite ?_ ?_)
      | (with_reducible refine LeO.bind ?_ (fun _ => ?_))
      | exact ih0 _ _ _
      | exact ih1 _ _ _ _ _ _ _
      | exact ih2 _ _ _ _ _ _ _ _
      | exact ih3 _ _ _ _ _ _
      | exact ih4 _ _ _ _ _ _ _ _
      | exact ih5 _ _ _ _ _ _ _ _ _
      | exact ih6 _ _ _ _ _ _ _ _ _ _
      | exact ih7 _ _ _ _ _ _
      | exact ih8 _ _ _ _ _ _
      | exact ih9 _ _ _ _ _ _ _ _
      | exact impl_DayOf.mono _ _ _ _
      | exact impl_DaysOf.mono _ _ _ _ _
      | exact impl_NeverTurned.mono _ _ _
      | exact impl_ReadRow.mono _ _
      | exact impl_RowOn.mono _ _ _ _
      | exact impl_RowText.mono _ _
      | exact impl_SameRow.mono _ _ _
      | exact impl_TurnBottle.mono _ _ _ _
      | exact impl_UprightDays.mono _ _ _ _ _
      | exact impl_VisitsOf.mono _ _ _ _ _ _ _ _
      | exact spec_DayOf.mono _ _ _ _
      | exact spec_HasNumber.mono _ _ _
      | exact spec_NeverTurned.mono _ _ _
      | exact spec_P6Row.mono _ _
      | exact spec_P6Walkers.mono _ _ _
      | exact spec_RowOn.mono _ _ _ _
      | exact spec_SameNumbers.mono _ _ _
      | exact spec_SameRow.mono _ _ _
      | exact spec_TurnBottle.mono _ _ _ _
      | exact LeO.none _
      | refine LeO.ite ?_ ?_
      | refine LeO.bind ?_ (fun _ => ?_)
theorem laws_FnTurned.mono : ∀ a0 a1 k, LeO (laws_FnTurned.f k a0 a1) (laws_FnTurned.f (k + 1) a0 a1) := by
  intro a0 a1 k
  obtain ⟨ih0, ih1, ih2, ih3, ih4, ih5, ih6, ih7, ih8, ih9⟩ := laws_FnTurned.mono_l k
  unfold laws_FnTurned.f
  repeat' first
      | (with_reducible exact ih0 _ _ _)
      | (with_reducible exact ih1 _ _ _ _ _ _ _)
      | (with_reducible exact ih2 _ _ _ _ _ _ _ _)
      | (with_reducible exact ih3 _ _ _ _ _ _)
      | (with_reducible exact ih4 _ _ _ _ _ _ _ _)
      | (with_reducible exact ih5 _ _ _ _ _ _ _ _ _)
      | (with_reducible exact ih6 _ _ _ _ _ _ _ _ _ _)
      | (with_reducible exact ih7 _ _ _ _ _ _)
      | (with_reducible exact ih8 _ _ _ _ _ _)
      | (with_reducible exact ih9 _ _ _ _ _ _ _ _)
      | (with_reducible exact impl_DayOf.mono _ _ _ _)
      | (with_reducible exact impl_DaysOf.mono _ _ _ _ _)
      | (with_reducible exact impl_NeverTurned.mono _ _ _)
      | (with_reducible exact impl_ReadRow.mono _ _)
      | (with_reducible exact impl_RowOn.mono _ _ _ _)
      | (with_reducible exact impl_RowText.mono _ _)
      | (with_reducible exact impl_SameRow.mono _ _ _)
      | (with_reducible exact impl_TurnBottle.mono _ _ _ _)
      | (with_reducible exact impl_UprightDays.mono _ _ _ _ _)
      | (with_reducible exact impl_VisitsOf.mono _ _ _ _ _ _ _ _)
      | (with_reducible exact spec_DayOf.mono _ _ _ _)
      | (with_reducible exact spec_HasNumber.mono _ _ _)
      | (with_reducible exact spec_NeverTurned.mono _ _ _)
      | (with_reducible exact spec_P6Row.mono _ _)
      | (with_reducible exact spec_P6Walkers.mono _ _ _)
      | (with_reducible exact spec_RowOn.mono _ _ _ _)
      | (with_reducible exact spec_SameNumbers.mono _ _ _)
      | (with_reducible exact spec_SameRow.mono _ _ _)
      | (with_reducible exact spec_TurnBottle.mono _ _ _ _)
      | (with_reducible exact LeO.refl _)
      | (with_reducible exact LeO.none _)
      | (with_reducible refine LeO.ite ?_ ?_)
      | (with_reducible refine LeO.bind ?_ (fun _ => ?_))
      | exact ih0 _ _ _
      | exact ih1 _ _ _ _ _ _ _
      | exact ih2 _ _ _ _ _ _ _ _
      | exact ih3 _ _ _ _ _ _
      | exact ih4 _ _ _ _ _ _ _ _
      | exact ih5 _ _ _ _ _ _ _ _ _
      | exact ih6 _ _ _ _ _ _ _ _ _ _
      | exact ih7 _ _ _ _ _ _
      | exact ih8 _ _ _ _ _ _
      | exact ih9 _ _ _ _ _ _ _ _
      | exact impl_DayOf.mono _ _ _ _
      | exact impl_DaysOf.mono _ _ _ _ _
      | exact impl_NeverTurned.mono _ _ _
      | exact impl_ReadRow.mono _ _
      | exact impl_RowOn.mono _ _ _ _
      | exact impl_RowText.mono _ _
      | exact impl_SameRow.mono _ _ _
      | exact impl_TurnBottle.mono _ _ _ _
      | exact impl_UprightDays.mono _ _ _ _ _
      | exact impl_VisitsOf.mono _ _ _ _ _ _ _ _
      | exact spec_DayOf.mono _ _ _ _
      | exact spec_HasNumber.mono _ _ _
      | exact spec_NeverTurned.mono _ _ _
      | exact spec_P6Row.mono _ _
      | exact spec_P6Walkers.mono _ _ _
      | exact spec_RowOn.mono _ _ _ _
      | exact spec_SameNumbers.mono _ _ _
      | exact spec_SameRow.mono _ _ _
      | exact spec_TurnBottle.mono _ _ _ _
      | exact LeO.none _
      | refine LeO.ite ?_ ?_
      | refine LeO.bind ?_ (fun _ => ?_)
theorem laws_FnTurned.dead_j1 : ∀ k y0 y1 y2 y3 y4 y5, ¬ laws_FnTurned.j1 k y0 y1 y2 y3 y4 y5 true = some true
  | 0, _, _, _, _, _, _ => by simp [laws_FnTurned.j1]
  | k + 1, _, _, _, _, _, _ => by simp [laws_FnTurned.j1]
theorem laws_FnTurned.dead_j3 : ∀ k y0 y1 y2 y3 y4, ¬ laws_FnTurned.j3 k y0 y1 y2 y3 y4 true = some true
  | 0, _, _, _, _, _ => by simp [laws_FnTurned.j3]
  | k + 1, _, _, _, _, _ => by simp [laws_FnTurned.j3]
theorem laws_FnTurned.dead_j5 : ∀ k y0 y1 y2 y3 y4 y5 y6 y7, ¬ laws_FnTurned.j5 k y0 y1 y2 y3 y4 y5 y6 y7 true = some true
  | 0, _, _, _, _, _, _, _, _ => by simp [laws_FnTurned.j5]
  | k + 1, _, _, _, _, _, _, _, _ => by simp [laws_FnTurned.j5]
theorem laws_FnTurned.dead_j7 : ∀ k y0 y1 y2 y3 y4, ¬ laws_FnTurned.j7 k y0 y1 y2 y3 y4 true = some true
  | 0, _, _, _, _, _ => by simp [laws_FnTurned.j7]
  | k + 1, _, _, _, _, _ => by simp [laws_FnTurned.j7]
end Go.Proofs.Ythbblaapmmhclaa.G
