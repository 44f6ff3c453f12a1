-- Written by wip/tools/xprint.py out of the translation. Lean checks it.
import Derived.Test.YtepokbejmnkogaaG0
import Derived.Test.YtepokbejmnkogaaFOrder
import Derived.Test.YtepokbejmnkogaaFSumFJ
import Derived.Test.YtepokbejmnkogaaG1
import Derived.Test.YtepokbejmnkogaaG2
import Derived.Test.YtepokbejmnkogaaG3
namespace Go.Proofs.Ytepokbejmnkogaa.G
open Go.RowKit Go.Proofs.YtepokbejmnkogaaW.PrintWords Go.Proofs.YtepokbejmnkogaaW.PrintLast Go.Proofs.YtepokbejmnkogaaW.PrintMore
attribute [local go_sem] max2_int min2_int max_two min_two max_three min_three max_four min_four   -- for this text's walks alone
set_option linter.unusedVariables false
set_option linter.unusedSimpArgs false

/-! ### laws_FnRanks: function 4 -/
mutual
def laws_FnRanks.j0 : Nat → List Int → Bool → Option (Bool)
  | 0, _, _ => none
  | k + 1, x0, x40 => if x40 = true then (some true) else ((spec_P6Marks.f k x0).bind fun bt266 => ((impl_RanksOf.f k bt266.1 bt266.2).bind fun bt270 => ((spec_RanksOf.f k bt266.1 bt266.2).bind fun bt274 => ((impl_RankSums.f k bt266.1 bt266.2).bind fun bt278 => ((spec_RankSums.f k bt266.1 bt266.2).bind fun bt282 => ((impl_SumOrder.f bt266.1 bt266.2).bind fun bt286 => ((spec_SumOrder.f k bt266.1 bt266.2).bind fun bt290 => ((impl_SpreadOf.f k bt266.1 bt266.2).bind fun bt294 => ((spec_SpreadOf.f k bt266.1 bt266.2).bind fun bt296 => (if bt270.2 = bt274.2 then (if bt270.2 = 0 then ((spec_SameTables.f k bt270.1 bt274.1).bind fun t298 => (if t298 = true then (if (bt274.1.length : Int) = (bt266.2.length : Int) then (if bt278.2 = bt282.2 then (if bt278.2 = 0 then ((spec_SameNumbers.f k bt278.1 bt282.1).bind fun t299 => (if t299 = true then (if (bt282.1.length : Int) = bt266.1 then (if bt286.2 = bt290.2 then (if bt286.2 = 0 then ((spec_SameNumbers.f k bt286.1 bt290.1).bind fun t300 => (if t300 = true then ((impl_IsOrder.f bt266.1 bt290.1).bind fun t301 => (if t301 = true then (if bt294.2 = bt296.2 then (if bt294.2 = 0 then (if bt294.1 = bt296.1 then (laws_FnRanks.j1 k bt266.1 bt266.2 bt274.1 bt282.1 bt290.1 bt296.1 (decide (bt296.1 < 0))) else (laws_FnRanks.j1 k bt266.1 bt266.2 bt274.1 bt282.1 bt290.1 bt296.1 true)) else (laws_FnRanks.j1 k bt266.1 bt266.2 bt274.1 bt282.1 bt290.1 bt296.1 true)) else (laws_FnRanks.j1 k bt266.1 bt266.2 bt274.1 bt282.1 bt290.1 bt296.1 true)) else (laws_FnRanks.j1 k bt266.1 bt266.2 bt274.1 bt282.1 bt290.1 bt296.1 true))) else (laws_FnRanks.j1 k bt266.1 bt266.2 bt274.1 bt282.1 bt290.1 bt296.1 true))) else (laws_FnRanks.j1 k bt266.1 bt266.2 bt274.1 bt282.1 bt290.1 bt296.1 true)) else (laws_FnRanks.j1 k bt266.1 bt266.2 bt274.1 bt282.1 bt290.1 bt296.1 true)) else (laws_FnRanks.j1 k bt266.1 bt266.2 bt274.1 bt282.1 bt290.1 bt296.1 true)) else (laws_FnRanks.j1 k bt266.1 bt266.2 bt274.1 bt282.1 bt290.1 bt296.1 true))) else (laws_FnRanks.j1 k bt266.1 bt266.2 bt274.1 bt282.1 bt290.1 bt296.1 true)) else (laws_FnRanks.j1 k bt266.1 bt266.2 bt274.1 bt282.1 bt290.1 bt296.1 true)) else (laws_FnRanks.j1 k bt266.1 bt266.2 bt274.1 bt282.1 bt290.1 bt296.1 true)) else (laws_FnRanks.j1 k bt266.1 bt266.2 bt274.1 bt282.1 bt290.1 bt296.1 true))) else (laws_FnRanks.j1 k bt266.1 bt266.2 bt274.1 bt282.1 bt290.1 bt296.1 true)) else (laws_FnRanks.j1 k bt266.1 bt266.2 bt274.1 bt282.1 bt290.1 bt296.1 true)))))))))))
def laws_FnRanks.j1 : Nat → Int → List (List Int) → List (List Int) → List Int → List Int → Int → Bool → Option (Bool)
  | 0, _, _, _, _, _, _, _ => none
  | k + 1, x5, x6, x9, x13, x17, x21, x173 => if x173 = true then (some false) else (if 0 ≤ x5 then (if (x5 : Int).toNat ≤ 35184372088832 then (laws_FnRanks.l0 k x5 x6 x9 x13 x17 x21 (List.replicate (x5 : Int).toNat 0) 0) else (none)) else (none))
def laws_FnRanks.l0 : Nat → Int → List (List Int) → List (List Int) → List Int → List Int → Int → List Int → Int → Option (Bool)
  | 0, _, _, _, _, _, _, _, _ => none
  | k + 1, x5, x6, x9, x13, x17, x21, x23, x24 => if x24 < (x9.length : Int) then (laws_FnRanks.l1 k x5 x6 x9 x13 x17 x21 x23 x24 0 0) else ((spec_SameNumbers.f k x23 x13).bind fun t323 => (if t323 = true then (laws_FnRanks.l3 k x5 x6 x13 x17 x21 1) else (some false)))
def laws_FnRanks.l1 : Nat → Int → List (List Int) → List (List Int) → List Int → List Int → Int → List Int → Int → Int → Int → Option (Bool)
  | 0, _, _, _, _, _, _, _, _, _, _ => none
  | k + 1, x5, x6, x9, x13, x17, x21, x23, x24, x25, x26 => if x26 < x5 then (if 0 ≤ x24 then (if x24 < (x9.length : Int) then (if 0 ≤ x26 then (if x26 < ((rd_L2 x9 x24).length : Int) then (if x26 < (x23.length : Int) then (laws_FnRanks.l2 k x5 x6 x9 x13 x17 x21 (x23.set (x26 : Int).toNat (wrap64 ((rd x23 x26) + (rd (rd_L2 x9 x24) x26)))) x24 (wrap64 (x25 + (rd (rd_L2 x9 x24) x26))) x26 0) else (none)) else (none)) else (none)) else (none)) else (none)) else (if x25 = (wrap64 (x5 * (wrap64 (x5 + 1)))) then (laws_FnRanks.l0 k x5 x6 x9 x13 x17 x21 x23 (wrap64 (x24 + 1))) else (some false))
def laws_FnRanks.l2 : Nat → Int → List (List Int) → List (List Int) → List Int → List Int → Int → List Int → Int → Int → Int → Int → Option (Bool)
  | 0, _, _, _, _, _, _, _, _, _, _, _ => none
  | k + 1, x5, x6, x9, x13, x17, x21, x23, x24, x25, x26, x27 => if x27 < x5 then (if 0 ≤ x24 then (if x24 < (x6.length : Int) then (if 0 ≤ x26 then (if x26 < ((rd_L2 x6 x24).length : Int) then (if 0 ≤ x27 then (if x27 < ((rd_L2 x6 x24).length : Int) then (if x24 < (x9.length : Int) then (if x26 < ((rd_L2 x9 x24).length : Int) then (if x27 < ((rd_L2 x9 x24).length : Int) then (if ((decide ((rd (rd_L2 x6 x24) x26) > (rd (rd_L2 x6 x24) x27))) != (decide ((rd (rd_L2 x9 x24) x26) < (rd (rd_L2 x9 x24) x27)))) = true then (some false) else (if (rd (rd_L2 x9 x24) x26) < 2 then (some false) else (if (rd (rd_L2 x9 x24) x26) > (wrap64 (2 * x5)) then (some false) else (laws_FnRanks.l2 k x5 x6 x9 x13 x17 x21 x23 x24 x25 x26 (wrap64 (x27 + 1)))))) else (none)) else (none)) else (none)) else (none)) else (none)) else (none)) else (none)) else (none)) else (none)) else (laws_FnRanks.l1 k x5 x6 x9 x13 x17 x21 x23 x24 x25 (wrap64 (x26 + 1)))
def laws_FnRanks.l3 : Nat → Int → List (List Int) → List Int → List Int → Int → Int → Option (Bool)
  | 0, _, _, _, _, _, _ => none
  | k + 1, x5, x6, x13, x17, x21, x28 => if x28 < x5 then (if 0 ≤ (wrap64 (x28 - 1)) then (if (wrap64 (x28 - 1)) < (x17.length : Int) then (if 0 ≤ x28 then (if x28 < (x17.length : Int) then (if 0 ≤ (rd x17 (wrap64 (x28 - 1))) then (if (rd x17 (wrap64 (x28 - 1))) < (x13.length : Int) then (if 0 ≤ (rd x17 x28) then (if (rd x17 x28) < (x13.length : Int) then (if (rd x13 (rd x17 (wrap64 (x28 - 1)))) > (rd x13 (rd x17 x28)) then (some false) else (if (rd x13 (rd x17 (wrap64 (x28 - 1)))) = (rd x13 (rd x17 x28)) then (if (rd x17 (wrap64 (x28 - 1))) > (rd x17 x28) then (some false) else (laws_FnRanks.l3 k x5 x6 x13 x17 x21 (wrap64 (x28 + 1)))) else (laws_FnRanks.l3 k x5 x6 x13 x17 x21 (wrap64 (x28 + 1))))) else (none)) else (none)) else (none)) else (none)) else (none)) else (none)) else (none)) else (none)) else (laws_FnRanks.l4 k x5 x21 (x6.length : Int) 0 1)
def laws_FnRanks.l4 : Nat → Int → Int → Int → Int → Int → Option (Bool)
  | 0, _, _, _, _, _ => none
  | k + 1, x5, x21, x31, x32, x33 => if x33 ≤ x5 then (laws_FnRanks.l4 k x5 x21 x31 (wrap64 (x32 + (wrap64 ((wrap64 ((wrap64 ((wrap64 ((wrap64 (x5 * 2)) * x33)) * x31)) - (wrap64 ((wrap64 (x5 * (wrap64 (x5 + 1)))) * x31)))) * (wrap64 ((wrap64 ((wrap64 ((wrap64 (x5 * 2)) * x33)) * x31)) - (wrap64 ((wrap64 (x5 * (wrap64 (x5 + 1)))) * x31)))))))) (wrap64 (x33 + 1))) else (some (decide (x21 ≤ x32)))
end
def laws_FnRanks.f (k : Nat) (l0 : List Int) (l1 : List Int) : Option (Bool) := (laws_f6big.f l0).bind fun t264 => (if t264 = true then (laws_FnRanks.j0 k l0 true) else ((laws_f6big.f l1).bind fun t265 => (laws_FnRanks.j0 k l0 t265)))
theorem laws_FnRanks.mono_l : ∀ k, (∀ y0 y1, LeO (laws_FnRanks.j0 k y0 y1) (laws_FnRanks.j0 (k + 1) y0 y1)) ∧ (∀ y0 y1 y2 y3 y4 y5 y6, LeO (laws_FnRanks.j1 k y0 y1 y2 y3 y4 y5 y6) (laws_FnRanks.j1 (k + 1) y0 y1 y2 y3 y4 y5 y6)) ∧ (∀ y0 y1 y2 y3 y4 y5 y6 y7, LeO (laws_FnRanks.l0 k y0 y1 y2 y3 y4 y5 y6 y7) (laws_FnRanks.l0 (k + 1) y0 y1 y2 y3 y4 y5 y6 y7)) ∧ (∀ y0 y1 y2 y3 y4 y5 y6 y7 y8 y9, LeO (laws_FnRanks.l1 k y0 y1 y2 y3 y4 y5 y6 y7 y8 y9) (laws_FnRanks.l1 (k + 1) y0 y1 y2 y3 y4 y5 y6 y7 y8 y9)) ∧ (∀ y0 y1 y2 y3 y4 y5 y6 y7 y8 y9 y10, LeO (laws_FnRanks.l2 k y0 y1 y2 y3 y4 y5 y6 y7 y8 y9 y10) (laws_FnRanks.l2 (k + 1) y0 y1 y2 y3 y4 y5 y6 y7 y8 y9 y10)) ∧ (∀ y0 y1 y2 y3 y4 y5, LeO (laws_FnRanks.l3 k y0 y1 y2 y3 y4 y5) (laws_FnRanks.l3 (k + 1) y0 y1 y2 y3 y4 y5)) ∧ (∀ y0 y1 y2 y3 y4, LeO (laws_FnRanks.l4 k y0 y1 y2 y3 y4) (laws_FnRanks.l4 (k + 1) y0 y1 y2 y3 y4))
  | 0 => ⟨fun _ _ r h => by simp [laws_FnRanks.j0] at h, fun _ _ _ _ _ _ _ r h => by simp [laws_FnRanks.j1] at h, fun _ _ _ _ _ _ _ _ r h => by simp [laws_FnRanks.l0] at h, fun _ _ _ _ _ _ _ _ _ _ r h => by simp [laws_FnRanks.l1] at h, fun _ _ _ _ _ _ _ _ _ _ _ r h => by simp [laws_FnRanks.l2] at h, fun _ _ _ _ _ _ r h => by simp [laws_FnRanks.l3] at h, fun _ _ _ _ _ r h => by simp [laws_FnRanks.l4] at h⟩
  | k + 1 => by
    obtain ⟨ih0, ih1, ih2, ih3, ih4, ih5, ih6⟩ := laws_FnRanks.mono_l k
    refine ⟨?_, ?_, ?_, ?_, ?_, ?_, ?_⟩
    · intro y0 y1
      unfold laws_FnRanks.j0
      repeat' first
      | (with_reducible exact ih0 _ _)
      | (with_reducible exact ih1 _ _ _ _ _ _ _)
      | (with_reducible exact ih2 _ _ _ _ _ _ _ _)
      | (with_reducible exact ih3 _ _ _ _ _ _ _ _ _ _)
      | (with_reducible exact ih4 _ _ _ _ _ _ _ _ _ _ _)
      | (with_reducible exact ih5 _ _ _ _ _ _)
      | (with_reducible exact ih6 _ _ _ _ _)
      | (with_reducible exact impl_RankSums.mono _ _ _)
      | (with_reducible exact impl_RanksOf.mono _ _ _)
      | (with_reducible exact impl_SpreadOf.mono _ _ _)
      | (with_reducible exact spec_P6Marks.mono _ _)
      | (with_reducible exact spec_RankSums.mono _ _ _)
      | (with_reducible exact spec_RanksOf.mono _ _ _)
      | (with_reducible exact spec_SameNumbers.mono _ _ _)
      | (with_reducible exact spec_SameTables.mono _ _ _)
      | (with_reducible exact spec_SpreadOf.mono _ _ _)
      | (with_reducible exact spec_SumOrder.mono _ _ _)
      | (with_reducible exact LeO.refl _)
      | (with_reducible exact LeO.none _)
      | (with_reducible refine LeO.ite ?_ ?_)
      | (with_reducible refine LeO.bind ?_ (fun _ => ?_))
      | exact ih0 _ _
      | exact ih1 _ _ _ _ _ _ _
      | exact ih2 _ _ _ _ _ _ _ _
      | exact ih3 _ _ _ _ _ _ _ _ _ _
      | exact ih4 _ _ _ _ _ _ _ _ _ _ _
      | exact ih5 _ _ _ _ _ _
      | exact ih6 _ _ _ _ _
      | exact impl_RankSums.mono _ _ _
      | exact impl_RanksOf.mono _ _ _
      | exact impl_SpreadOf.mono _ _ _
      | exact spec_P6Marks.mono _ _
      | exact spec_RankSums.mono _ _ _
      | exact spec_RanksOf.mono _ _ _
      | exact spec_SameNumbers.mono _ _ _
      | exact spec_SameTables.mono _ _ _
      | exact spec_SpreadOf.mono _ _ _
      | exact spec_SumOrder.mono _ _ _
      | exact LeO.none _
      | refine LeO.ite ?_ ?_
      | refine LeO.bind ?_ (fun _ => ?_)
    · intro y0 y1 y2 y3 y4 y5 y6
      unfold laws_FnRanks.j1
      repeat' first
      | (with_reducible exact ih0 _ _)
      | (with_reducible exact ih1 _ _ _ _ _ _ _)
      | (with_reducible exact ih2 _ _ _ _ _ _ _ _)
      | (with_reducible exact ih3 _ _ _ _ _ _ _ _ _ _)
      | (with_reducible exact ih4 _ _ _ _ _ _ _ _ _ _ _)
      | (with_reducible exact ih5 _ _ _ _ _ _)
      | (with_reducible exact ih6 _ _ _ _ _)
      | (with_reducible exact impl_RankSums.mono _ _ _)
      | (with_reducible exact impl_RanksOf.mono _ _ _)
      | (with_reducible exact impl_SpreadOf.mono _ _ _)
      | (with_reducible exact spec_P6Marks.mono _ _)
      | (with_reducible exact spec_RankSums.mono _ _ _)
      | (with_reducible exact spec_RanksOf.mono _ _ _)
      | (with_reducible exact spec_SameNumbers.mono _ _ _)
      | (with_reducible exact spec_SameTables.mono _ _ _)
      | (with_reducible exact spec_SpreadOf.mono _ _ _)
      | (with_reducible exact spec_SumOrder.mono _ _ _)
      | (with_reducible exact LeO.refl _)
      | (with_reducible exact LeO.none _)
      | (with_reducible refine LeO.ite ?_ ?_)
      | (with_reducible refine LeO.bind ?_ (fun _ => ?_))
      | exact ih0 _ _
      | exact ih1 _ _ _ _ _ _ _
      | exact ih2 _ _ _ _ _ _ _ _
      | exact ih3 _ _ _ _ _ _ _ _ _ _
      | exact ih4 _ _ _ _ _ _ _ _ _ _ _
      | exact ih5 _ _ _ _ _ _
      | exact ih6 _ _ _ _ _
      | exact impl_RankSums.mono _ _ _
      | exact impl_RanksOf.mono _ _ _
      | exact impl_SpreadOf.mono _ _ _
      | exact spec_P6Marks.mono _ _
      | exact spec_RankSums.mono _ _ _
      | exact spec_RanksOf.mono _ _ _
      | exact spec_SameNumbers.mono _ _ _
      | exact spec_SameTables.mono _ _ _
      | exact spec_SpreadOf.mono _ _ _
      | exact spec_SumOrder.mono _ _ _
      | exact LeO.none _
      | refine LeO.ite ?_ ?_
      | refine LeO.bind ?_ (fun _ => ?_)
    · intro y0 y1 y2 y3 y4 y5 y6 y7
      unfold laws_FnRanks.l0
      repeat' first
      | (with_reducible exact ih0 _ _)
      | (with_reducible exact ih1 _ _ _ _ _ _ _)
      | (with_reducible exact ih2 _ _ _ _ _ _ _ _)
      | (with_reducible exact ih3 _ _ _ _ _ _ _ _ _ _)
      | (with_reducible exact ih4 _ _ _ _ _ _ _ _ _ _ _)
      | (with_reducible exact ih5 _ _ _ _ _ _)
      | (with_reducible exact ih6 _ _ _ _ _)
      | (with_reducible exact impl_RankSums.mono _ _ _)
      | (with_reducible exact impl_RanksOf.mono _ _ _)
      | (with_reducible exact impl_SpreadOf.mono _ _ _)
      | (with_reducible exact spec_P6Marks.mono _ _)
      | (with_reducible exact spec_RankSums.mono _ _ _)
      | (with_reducible exact spec_RanksOf.mono _ _ _)
      | (with_reducible exact spec_SameNumbers.mono _ _ _)
      | (with_reducible exact spec_SameTables.mono _ _ _)
      | (with_reducible exact spec_SpreadOf.mono _ _ _)
      | (with_reducible exact spec_SumOrder.mono _ _ _)
      | (with_reducible exact LeO.refl _)
      | (with_reducible exact LeO.none _)
      | (with_reducible refine LeO.ite ?_ ?_)
      | (with_reducible refine LeO.bind ?_ (fun _ => ?_))
      | exact ih0 _ _
      | exact ih1 _ _ _ _ _ _ _
      | exact ih2 _ _ _ _ _ _ _ _
      | exact ih3 _ _ _ _ _ _ _ _ _ _
      | exact ih4 _ _ _ _ _ _ _ _ _ _ _
      | exact ih5 _ _ _ _ _ _
      | exact ih6 _ _ _ _ _
      | exact impl_RankSums.mono _ _ _
      | exact impl_RanksOf.mono _ _ _
      | exact impl_SpreadOf.mono _ _ _
      | exact spec_P6Marks.mono _ _
      | exact spec_RankSums.mono _ _ _
      | exact spec_RanksOf.mono _ _ _
      | exact spec_SameNumbers.mono _ _ _
      | exact spec_SameTables.mono _ _ _
      | exact spec_SpreadOf.mono _ _ _
      | exact spec_SumOrder.mono _ _ _
      | exact LeO.none _
      | refine LeO.ite ?_ ?_
      | refine LeO.bind ?_ (fun _ => ?_)
    · intro y0 y1 y2 y3 y4 y5 y6 y7 y8 y9
      unfold laws_FnRanks.l1
      repeat' first
      | (with_reducible exact ih0 _ _)
      | (with_reducible exact ih1 _ _ _ _ _ _ _)
      | (with_reducible exact ih2 _ _ _ _ _ _ _ _)
      | (with_reducible exact ih3 _ _ _ _ _ _ _ _ _ _)
      | (with_reducible exact ih4 _ _ _ _ _ _ _ _ _ _ _)
      | (with_reducible exact ih5 _ _ _ _ _ _)
      | (with_reducible exact ih6 _ _ _ _ _)
      | (with_reducible exact impl_RankSums.mono _ _ _)
      | (with_reducible exact impl_RanksOf.mono _ _ _)
      | (with_reducible exact impl_SpreadOf.mono _ _ _)
      | (with_reducible exact spec_P6Marks.mono _ _)
      | (with_reducible exact spec_RankSums.mono _ _ _)
      | (with_reducible exact spec_RanksOf.mono _ _ _)
      | (with_reducible exact spec_SameNumbers.mono _ _ _)
      | (with_reducible exact spec_SameTables.mono _ _ _)
      | (with_reducible exact spec_SpreadOf.mono _ _ _)
      | (with_reducible exact spec_SumOrder.mono _ _ _)
      | (with_reducible exact LeO.refl _)
      | (with_reducible exact LeO.none _)
      | (with_reducible refine LeO.ite ?_ ?_)
      | (with_reducible refine LeO.bind ?_ (fun _ => ?_))
      | exact ih0 _ _
      | exact ih1 _ _ _ _ _ _ _
      | exact ih2 _ _ _ _ _ _ _ _
      | exact ih3 _ _ _ _ _ _ _ _ _ _
      | exact ih4 _ _ _ _ _ _ _ _ _ _ _
      | exact ih5 _ _ _ _ _ _
      | exact ih6 _ _ _ _ _
      | exact impl_RankSums.mono _ _ _
      | exact impl_RanksOf.mono _ _ _
      | exact impl_SpreadOf.mono _ _ _
      | exact spec_P6Marks.mono _ _
      | exact spec_RankSums.mono _ _ _
      | exact spec_RanksOf.mono _ _ _
      | exact spec_SameNumbers.mono _ _ _
      | exact spec_SameTables.mono _ _ _
      | exact spec_SpreadOf.mono _ _ _
      | exact spec_SumOrder.mono _ _ _
      | exact LeO.none _
      | refine LeO.ite ?_ ?_
      | refine LeO.bind ?_ (fun _ => ?_)
    · intro y0 y1 y2 y3 y4 y5 y6 y7 y8 y9 y10
      unfold laws_FnRanks.l2
      repeat' first
      | (with_reducible exact ih0 _ _)
      | (with_reducible exact ih1 _ _ _ _ _ _ _)
      | (with_reducible exact ih2 _ _ _ _ _ _ _ _)
      | (with_reducible exact ih3 _ _ _ _ _ _ _ _ _ _)
      | (with_reducible exact ih4 _ _ _ _ _ _ _ _ _ _ _)
      | (with_reducible exact ih5 _ _ _ _ _ _)
      | (with_reducible exact ih6 _ _ _ _ _)
      | (with_reducible exact impl_RankSums.mono _ _ _)
      | (with_reducible exact impl_RanksOf.mono _ _ _)
      | (with_reducible exact impl_SpreadOf.mono _ _ _)
      | (with_reducible exact spec_P6Marks.mono _ _)
      | (with_reducible exact spec_RankSums.mono _ _ _)
      | (with_reducible exact spec_RanksOf.mono _ _ _)
      | (with_reducible exact spec_SameNumbers.mono _ _ _)
      | (with_reducible exact spec_SameTables.mono _ _ _)
      | (with_reducible exact spec_SpreadOf.mono _ _ _)
      | (with_reducible exact spec_SumOrder.mono _ _ _)
      | (with_reducible exact LeO.refl _)
      | (with_reducible exact LeO.none _)
      | (with_reducible refine LeO.ite ?_ ?_)
      | (with_reducible refine LeO.bind ?_ (fun _ => ?_))
      | exact ih0 _ _
      | exact ih1 _ _ _ _ _ _ _
      | exact ih2 _ _ _ _ _ _ _ _
      | exact ih3 _ _ _ _ _ _ _ _ _ _
      | exact ih4 _ _ _ _ _ _ _ _ _ _ _
      | exact ih5 _ _ _ _ _ _
      | exact ih6 _ _ _ _ _
      | exact impl_RankSums.mono _ _ _
      | exact impl_RanksOf.mono _ _ _
      | exact impl_SpreadOf.mono _ _ _
      | exact spec_P6Marks.mono _ _
      | exact spec_RankSums.mono _ _ _
      | exact spec_RanksOf.mono _ _ _
      | exact spec_SameNumbers.mono _ _ _
      | exact spec_SameTables.mono _ _ _
      | exact spec_SpreadOf.mono _ _ _
      | exact spec_SumOrder.mono _ _ _
      | exact LeO.none _
      | refine LeO.ite ?_ ?_
      | refine LeO.bind ?_ (fun _ => ?_)
    · intro y0 y1 y2 y3 y4 y5
      unfold laws_FnRanks.l3
      repeat' first
      | (with_reducible exact ih0 _ _)
      | (with_reducible exact ih1 _ _ _ _ _ _ _)
      | (with_reducible exact ih2 _ _ _ _ _ _ _ _)
      | (with_reducible exact ih3 _ _ _ _ _ _ _ _ _ _)
      | (with_reducible exact ih4 _ _ _ _ _ _ _ _ _ _ _)
      | (with_reducible exact ih5 _ _ _ _ _ _)
      | (with_reducible exact ih6 _ _ _ _ _)
      | (with_reducible exact impl_RankSums.mono _ _ _)
      | (with_reducible exact impl_RanksOf.mono _ _ _)
      | (with_reducible exact impl_SpreadOf.mono _ _ _)
      | (with_reducible exact spec_P6Marks.mono _ _)
      | (with_reducible exact spec_RankSums.mono _ _ _)
      | (with_reducible exact spec_RanksOf.mono _ _ _)
      | (with_reducible exact spec_SameNumbers.mono _ _ _)
      | (with_reducible exact spec_SameTables.mono _ _ _)
      | (with_reducible exact spec_SpreadOf.mono _ _ _)
      | (with_reducible exact spec_SumOrder.mono _ _ _)
      | (with_reducible exact LeO.refl _)
      | (with_reducible exact LeO.none _)
      | (with_reducible refine LeO.ite ?_ ?_)
      | (with_reducible refine LeO.bind ?_ (fun _ => ?_))
      | exact ih0 _ _
      | exact ih1 _ _ _ _ _ _ _
      | exact ih2 _ _ _ _ _ _ _ _
      | exact ih3 _ _ _ _ _ _ _ _ _ _
      | exact ih4 _ _ _ _ _ _ _ _ _ _ _
      | exact ih5 _ _ _ _ _ _
      | exact ih6 _ _ _ _ _
      | exact impl_RankSums.mono _ _ _
      | exact impl_RanksOf.mono _ _ _
      | exact impl_SpreadOf.mono _ _ _
      | exact spec_P6Marks.mono _ _
      | exact spec_RankSums.mono _ _ _
      | exact spec_RanksOf.mono _ _ _
      | exact spec_SameNumbers.mono _ _ _
      | exact spec_SameTables.mono _ _ _
      | exact spec_SpreadOf.mono _ _ _
      | exact spec_SumOrder.mono _ _ _
      | exact LeO.none _
      | refine LeO.ite ?_ ?_
      | refine LeO.bind ?_ (fun _ => ?_)
    · intro y0 y1 y2 y3 y4
      unfold laws_FnRanks.l4
      repeat' first
      | (with_reducible exact ih0 _ _)
      | (with_reducible exact ih1 _ _ _ _ _ _ _)
      | (with_reducible exact ih2 _ _ _ _ _ _ _ _)
      | (with_reducible exact ih3 _ _ _ _ _ _ _ _ _ _)
      | (with_reducible exact ih4 _ _ _ _ _ _ _ _ _ _ _)
      | (with_reducible exact ih5 _ _ _ _ _ _)
      | (with_reducible exact ih6 _ _ _ _ _)
      | (with_reducible exact impl_RankSums.mono _ _ _)
      | (with_reducible exact impl_RanksOf.mono _ _ _)
      | (with_reducible exact impl_SpreadOf.mono _ _ _)
      | (with_reducible exact spec_P6Marks.mono _ _)
      | (with_reducible exact spec_RankSums.mono _ _ _)
      | (with_reducible exact spec_RanksOf.mono _ _ _)
      | (with_reducible exact spec_SameNumbers.mono _ _ _)
      | (with_reducible exact spec_SameTables.mono _ _ _)
      | (with_reducible exact spec_SpreadOf.mono _ _ _)
      | (with_reducible exact spec_SumOrder.mono _ _ _)
      | (with_reducible exact LeO.refl _)
      | (with_reducible exact LeO.none _)
      | (with_reducible refine LeO.ite ?_ ?_)
      | (with_reducible refine LeO.bind ?_ (fun _ => ?_))
      | exact ih0 _ _
      | exact ih1 _ _ _ _ _ _ _
      | exact ih2 _ _ _ _ _ _ _ _
      | exact ih3 _ _ _ _ _ _ _ _ _ _
      | exact ih4 _ _ _ _ _ _ _ _ _ _ _
      | exact ih5 _ _ _ _ _ _
      | exact ih6 _ _ _ _ _
      | exact impl_RankSums.mono _ _ _
      | exact impl_RanksOf.mono _ _ _
      | exact impl_SpreadOf.mono _ _ _
      | exact spec_P6Marks.mono _ _
      | exact spec_RankSums.mono _ _ _
      | exact spec_RanksOf.mono _ _ _
      | exact spec_SameNumbers.mono _ _ _
      | exact spec_SameTables.mono _ _ _
      | exact spec_SpreadOf.mono _ _ _
      | exact spec_SumOrder.mono _ _ _
      | exact LeO.none _
      | refine LeO.ite ?_ ?_
      | refine LeO.bind ?_ (fun _ => ?_)
theorem laws_FnRanks.mono : ∀ a0 a1 k, LeO (laws_FnRanks.f k a0 a1) (laws_FnRanks.f (k + 1) a0 a1) := by
  intro a0 a1 k
  obtain ⟨ih0, ih1, ih2, ih3, ih4, ih5, ih6⟩ := laws_FnRanks.mono_l k
  unfold laws_FnRanks.f
  repeat' first
      | (with_reducible exact ih0 _ _)
      | (with_reducible exact ih1 _ _ _ _ _ _ _)
      | (with_reducible exact ih2 _ _ _ _ _ _ _ _)
      | (with_reducible exact ih3 _ _ _ _ _ _ _ _ _ _)
      | (with_reducible exact ih4 _ _ _ _ _ _ _ _ _ _ _)
      | (with_reducible exact ih5 _ _ _ _ _ _)
      | (with_reducible exact ih6 _ _ _ _ _)
      | (with_reducible exact impl_RankSums.mono _ _ _)
      | (with_reducible exact impl_RanksOf.mono _ _ _)
      | (with_reducible exact impl_SpreadOf.mono _ _ _)
      | (with_reducible exact spec_P6Marks.mono _ _)
      | (with_reducible exact spec_RankSums.mono _ _ _)
      | (with_reducible exact spec_RanksOf.mono _ _ _)
      | (with_reducible exact spec_SameNumbers.mono _ _ _)
      | (with_reducible exact spec_SameTables.mono _ _ _)
      | (with_reducible exact spec_SpreadOf.mono _ _ _)
      | (with_reducible exact spec_SumOrder.mono _ _ _)
      | (with_reducible exact LeO.refl _)
      | (with_reducible exact LeO.none _)
      | (with_reducible refine LeO.ite ?_ ?_)
      | (with_reducible refine LeO.bind ?_ (fun _ => ?_))
      | exact ih0 _ _
      | exact ih1 _ _ _ _ _ _ _
      | exact ih2 _ _ _ _ _ _ _ _
      | exact ih3 _ _ _ _ _ _ _ _ _ _
      | exact ih4 _ _ _ _ _ _ _ _ _ _ _
      | exact ih5 _ _ _ _ _ _
      | exact ih6 _ _ _ _ _
      | exact impl_RankSums.mono _ _ _
      | exact impl_RanksOf.mono _ _ _
      | exact impl_SpreadOf.mono _ _ _
      | exact spec_P6Marks.mono _ _
      | exact spec_RankSums.mono _ _ _
      | exact spec_RanksOf.mono _ _ _
      | exact spec_SameNumbers.mono _ _ _
      | exact spec_SameTables.mono _ _ _
      | exact spec_SpreadOf.mono _ _ _
      | exact spec_SumOrder.mono _ _ _
      | exact LeO.none _
      | refine LeO.ite ?_ ?_
      | refine LeO.bind ?_ (fun _ => ?_)
def laws_FnRanks.T23 : Bool × List (List Nat × List Nat) := (true, [([], []), ([], []), ([0, 1], [0, 1]), ([2], [2]), ([], []), ([], []), ([4, 5], [4, 5]), ([6], [6]), ([], []), ([7, 8], [7, 8]), ([9], [9]), ([3, 10], [3, 10]), ([0, 1, 0, 1, 2, 3, 4, 5, 6, 7, 8, 9, 10, 11], [0, 1]), ([12, 11, 0, 1, 2, 3, 4, 5, 6, 7, 8, 9, 10, 11], [11, 12])])
def laws_FnRanks.B23 : List Nat := [0, 0, 3, 7, 0, 0, 48, 112, 0, 496, 1008, 2047, 4095, 8191]
theorem laws_FnRanks.tab23 : rtab .any (opsOf Try.f4 23) = laws_FnRanks.T23 := by kernel_rfl
theorem laws_FnRanks.bits23 : waitsOk laws_FnRanks.T23.2 laws_FnRanks.B23 = true := by kernel_rfl
def laws_FnRanks.T27 : Bool × List (List Nat × List Nat) := (true, [([], []), ([], []), ([0, 1], [0, 1]), ([2], [2]), ([], []), ([3, 4], [3, 4]), ([5], [5]), ([], []), ([], []), ([7, 8], [7, 8]), ([9], [9]), ([], []), ([10, 11], [10, 11]), ([12], [12]), ([6, 13], [6, 13]), ([], []), ([], []), ([15, 16], [15, 16]), ([17], [17]), ([], []), ([18, 19], [18, 19]), ([20], [20]), ([], []), ([], []), ([22, 23], [22, 23]), ([24], [24]), ([], []), ([25, 26], [25, 26]), ([27], [27]), ([21, 28], [21, 28]), ([14, 29], [14, 29]), ([30], [30]), ([31], [31]), ([31], [31]), ([32, 33, 31], [31, 32, 33]), ([34, 31], [31, 34]), ([31], [31]), ([35, 36, 31], [31, 35, 36]), ([37, 31], [31, 37]), ([38, 31], [31, 38]), ([31, 39], [31, 39]), ([40, 31], [40]), ([41], [41]), ([41], [41]), ([42, 43, 41], [41, 42, 43]), ([44, 41], [41, 44]), ([41], [41]), ([45, 46, 41], [41, 45, 46]), ([47, 41], [41, 47]), ([41], [41]), ([49, 41], [41, 49]), ([48, 50, 41], [41, 48, 50]), ([41, 51], [41, 51])])
def laws_FnRanks.B27 : List Nat := [0, 0, 3, 7, 0, 31, 63, 0, 0, 384, 896, 0, 3968, 8064, 16383, 0, 0, 98304, 229376, 0, 1015808, 2064384, 0, 0, 12582912, 29360128, 0, 130023424, 264241152, 536838144, 1073741823, 2147483647, 4294967295, 4294967295, 17179869183, 34359738367, 4294967295, 137438953471, 274877906943, 549755813887, 1099511627775, 2199023255551, 4398046511103, 4398046511103, 17592186044415, 35184372088831, 4398046511103, 140737488355327, 281474976710655, 4398046511103, 567347999932415, 2251799813685247, 4503599627370495]
theorem laws_FnRanks.tab27 : rtab .any (opsOf Try.f4 27) = laws_FnRanks.T27 := by kernel_rfl
theorem laws_FnRanks.bits27 : waitsOk laws_FnRanks.T27.2 laws_FnRanks.B27 = true := by kernel_rfl
def laws_FnRanks.T38 : Bool × List (List Nat × List Nat) := (true, [([], []), ([], []), ([0, 1], [0, 1]), ([2], [2]), ([], []), ([], []), ([4, 5], [4, 5]), ([6], [6]), ([3, 7], [3, 7]), ([8], [8]), ([9], [9]), ([9], [9]), ([10, 11, 9], [9, 10, 11]), ([12, 9], [9, 12]), ([9], [9]), ([9], [9]), ([14, 15, 9], [9, 14, 15]), ([16, 9], [9, 16]), ([13, 17, 9], [9, 13, 17]), ([18, 9, 9], [9, 18]), ([19], [19]), ([19], [19]), ([20, 21, 19], [19, 20, 21]), ([19, 22, 9], [9, 19, 22]), ([9, 23], [9, 23])])
def laws_FnRanks.B38 : List Nat := [0, 0, 3, 7, 0, 0, 48, 112, 255, 511, 1023, 1023, 4095, 8191, 1023, 1023, 50175, 115711, 262143, 524287, 1048575, 1048575, 4194303, 8388607, 16777215]
theorem laws_FnRanks.tab38 : rtab .any (opsOf Try.f4 38) = laws_FnRanks.T38 := by kernel_rfl
theorem laws_FnRanks.bits38 : waitsOk laws_FnRanks.T38.2 laws_FnRanks.B38 = true := by kernel_rfl
theorem laws_FnRanks.dead_j1 : ∀ k y0 y1 y2 y3 y4 y5, ¬ laws_FnRanks.j1 k y0 y1 y2 y3 y4 y5 true = some true
  | 0, _, _, _, _, _, _ => by simp [laws_FnRanks.j1]
  | k + 1, _, _, _, _, _, _ => by simp [laws_FnRanks.j1]
set_option maxHeartbeats 8000000 in
set_option maxRecDepth 100000 in
theorem laws_FnRanks.calls (k : Nat) (A0 : Option Addr) (c0 : Nat) (l0 : List Int) (A1 : Option Addr) (c1 : Nat) (l1 : List Int) (r : Bool) (w : World) (hr0 : Kd.C (Kd.int .u8) w A0 l0.length l0) (hc0 : l0.length ≤ c0) (hr1 : Kd.C (Kd.int .u8) w A1 l1.length l1) (hc1 : l1.length ≤ c1) (h : laws_FnRanks.f k l0 l1 = some r) (hT : r = true) :
  Calls Try.prog 4 #[.slice A0 l0.length c0, .slice A1 l1.length c1] w fun e w' => e = .returned (.bool r) ∧ Below w.heap.size w w' := by
 have HT := Lib.hid hT
 clear hT
 have HR0 := Aside0.mk hr0
 have HC0 := Aside0.mk hc0
 clear hr0 hc0
 have HR1 := Aside0.mk hr1
 have HC1 := Aside0.mk hc1
 clear hr1 hc1
 have HB := Aside0.mk (Below.refl w.heap.size w)
 have H : ((laws_f6big.f l0).bind fun t264 => (if t264 = true then (laws_FnRanks.j0 k l0 true) else ((laws_f6big.f l1).bind fun t265 => (laws_FnRanks.j0 k l0 t265)))) = some r := h
 clear h
 have HC3 := Aside0.mk H
 clear H
 go_enter Try.func4, Try.ntmps4
 go_upto_region 1 with (fail)
 go_cut [40] (fun v40 wc => ∃ (kq : Nat) (x40_2 : Bool), v40 = .bool x40_2 ∧ Aside0 (laws_FnRanks.j0 kq l0 x40_2 = some r) ∧ Aside0 (kq ≤ k) ∧ Aside0 (Below w.heap.size w wc))
 case first => as_aux_lemma =>
  have H := HC3.out
  clear HC3
  replace H := Option.bind_eq_some_iff.mp H
  obtain ⟨t264, A40, H⟩ := H
  replace H : (if t264 = true then (laws_FnRanks.j0 k l0 true) else ((laws_f6big.f l1).bind fun t265 => (laws_FnRanks.j0 k l0 t265))) = some r := H
  have A4 := Aside0.mk A40
  clear A40
  by_cases c5 : t264 = true
  ·
   subst c5
   have H1 : (laws_FnRanks.j0 k l0 true) = some r := by rw [if_pos rfl] at H; exact H
   clear H
   have H := H1
   clear H1
   have H' := Aside0.mk H
   clear H
   go_wp2_with (first | ((with_reducible refine gate_callee (f := 17) rfl ?_); refine goesL_ (some 36) rfl rfl Try.func17 (by kernel_rfl) rfl #[.slice A0 l0.length c0] rfl (by (try simp only [List.map_toArray, List.map_cons, List.map_nil]); first | done | rfl | (simp only [List.length_drop, List.length_take]; rfl)) ?_; (with_reducible refine (laws_f6big.calls _ _ l0 true _ ?side1 ?side2 A4.out).mono ?_); (case side1 => repeat (first | exact (Kd.C_below HR0.out HB.out) | (with_reducible refine Kd.C_alloc ?_ _) | (with_reducible refine Kd.C_drewN ?_ _) | (with_reducible refine Kd.C_drew ?_))); (case side2 => exact HC0.out); rintro e w' ⟨rfl, ⟨nd, rfl⟩⟩; refine ⟨_, rfl, ?_⟩))
   go_meet
   case rel => exact ⟨_, (true), (by first | rfl | (simp; done) | (simp [*]; done)), H', ⟨by first | omega | exact Nat.le_refl _⟩, ⟨by repeat (first | (with_reducible first | exact HB.out | apply below_alloc | apply pw_below_drewN | apply below_drew1) | exact HB.out)⟩⟩
  ·
   replace c5 := Bool.eq_false_iff.mpr c5
   subst c5
   have H1 : ((laws_f6big.f l1).bind fun t265 => (laws_FnRanks.j0 k l0 t265)) = some r := by rw [if_neg (show ¬ (false = true) by decide)] at H; exact H
   clear H
   have H := H1
   clear H1
   replace H := Option.bind_eq_some_iff.mp H
   obtain ⟨t265, A60, H⟩ := H
   replace H : (laws_FnRanks.j0 k l0 t265) = some r := H
   have A6 := Aside0.mk A60
   clear A60
   have H' := Aside0.mk H
   clear H
   go_wp2_with (first | ((with_reducible refine gate_callee (f := 17) rfl ?_); refine goesL_ (some 36) rfl rfl Try.func17 (by kernel_rfl) rfl #[.slice A0 l0.length c0] rfl (by (try simp only [List.map_toArray, List.map_cons, List.map_nil]); first | done | rfl | (simp only [List.length_drop, List.length_take]; rfl)) ?_; (with_reducible refine (laws_f6big.calls _ _ l0 false _ ?side1 ?side2 A4.out).mono ?_); (case side1 => repeat (first | exact (Kd.C_below HR0.out HB.out) | (with_reducible refine Kd.C_alloc ?_ _) | (with_reducible refine Kd.C_drewN ?_ _) | (with_reducible refine Kd.C_drew ?_))); (case side2 => exact HC0.out); rintro e w' ⟨rfl, ⟨nd, rfl⟩⟩; refine ⟨_, rfl, ?_⟩) | (go_at_call 17; (with_reducible refine (laws_f6big.calls _ _ l1 t265 _ ?side1 ?side2 A6.out).mono ?_); (case side1 => repeat (first | exact (Kd.C_below HR1.out (by repeat (first | (with_reducible first | exact HB.out | apply below_alloc | apply pw_below_drewN | apply below_drew1) | exact HB.out))) | (with_reducible refine Kd.C_alloc ?_ _) | (with_reducible refine Kd.C_drewN ?_ _) | (with_reducible refine Kd.C_drew ?_))); (case side2 => exact HC1.out); rintro e w' ⟨rfl, ⟨nd, rfl⟩⟩))
   go_meet
   case rel => exact ⟨_, (t265), (by first | rfl | (simp; done) | (simp [*]; done)), H', ⟨by first | omega | exact Nat.le_refl _⟩, ⟨by repeat (first | (with_reducible first | exact HB.out | apply below_alloc | apply pw_below_drewN | apply below_drew1) | exact HB.out)⟩⟩
 case rest => as_aux_lemma =>
  clear HC3
  try clear c1
  try clear p2
  try clear c4
  try clear c5
  obtain ⟨kq, x40_2, rfl, HA, HJ2, HB⟩ := hcut
  cases kq with
  | zero => exact absurd HA.out (by simp [laws_FnRanks.j0])
  | succ kj2 =>
   have H := HA.out
   clear HA
   simp only [laws_FnRanks.j0] at H
   by_cases c7 : x40_2 = true
   ·
    subst c7
    have H1 : (some true) = some r := by rw [if_pos rfl] at H; exact H
    clear H
    have H := H1
    clear H1
    obtain rfl := Option.some.inj H
    go_wp2
    go_ret
    exact ⟨by first | rfl | (simp [errW_none, errW_some] <;> rfl) | (simp [*, errW_none, errW_some] <;> rfl), by repeat (first | (with_reducible first | exact HB.out | apply below_alloc | apply pw_below_drewN | apply below_drew1) | exact HB.out)⟩
   ·
    replace c7 := Bool.eq_false_iff.mpr c7
    subst c7
    have H1 : ((spec_P6Marks.f kj2 l0).bind fun bt266 => ((impl_RanksOf.f kj2 bt266.1 bt266.2).bind fun bt270 => ((spec_RanksOf.f kj2 bt266.1 bt266.2).bind fun bt274 => ((impl_RankSums.f kj2 bt266.1 bt266.2).bind fun bt278 => ((spec_RankSums.f kj2 bt266.1 bt266.2).bind fun bt282 => ((impl_SumOrder.f bt266.1 bt266.2).bind fun bt286 => ((spec_SumOrder.f kj2 bt266.1 bt266.2).bind fun bt290 => ((impl_SpreadOf.f kj2 bt266.1 bt266.2).bind fun bt294 => ((spec_SpreadOf.f kj2 bt266.1 bt266.2).bind fun bt296 => (if bt270.2 = bt274.2 then (if bt270.2 = 0 then ((spec_SameTables.f kj2 bt270.1 bt274.1).bind fun t298 => (if t298 = true then (if (bt274.1.length : Int) = (bt266.2.length : Int) then (if bt278.2 = bt282.2 then (if bt278.2 = 0 then ((spec_SameNumbers.f kj2 bt278.1 bt282.1).bind fun t299 => (if t299 = true then (if (bt282.1.length : Int) = bt266.1 then (if bt286.2 = bt290.2 then (if bt286.2 = 0 then ((spec_SameNumbers.f kj2 bt286.1 bt290.1).bind fun t300 => (if t300 = true then ((impl_IsOrder.f bt266.1 bt290.1).bind fun t301 => (if t301 = true then (if bt294.2 = bt296.2 then (if bt294.2 = 0 then (if bt294.1 = bt296.1 then (laws_FnRanks.j1 kj2 bt266.1 bt266.2 bt274.1 bt282.1 bt290.1 bt296.1 (decide (bt296.1 < 0))) else (laws_FnRanks.j1 kj2 bt266.1 bt266.2 bt274.1 bt282.1 bt290.1 bt296.1 true)) else (laws_FnRanks.j1 kj2 bt266.1 bt266.2 bt274.1 bt282.1 bt290.1 bt296.1 true)) else (laws_FnRanks.j1 kj2 bt266.1 bt266.2 bt274.1 bt282.1 bt290.1 bt296.1 true)) else (laws_FnRanks.j1 kj2 bt266.1 bt266.2 bt274.1 bt282.1 bt290.1 bt296.1 true))) else (laws_FnRanks.j1 kj2 bt266.1 bt266.2 bt274.1 bt282.1 bt290.1 bt296.1 true))) else (laws_FnRanks.j1 kj2 bt266.1 bt266.2 bt274.1 bt282.1 bt290.1 bt296.1 true)) else (laws_FnRanks.j1 kj2 bt266.1 bt266.2 bt274.1 bt282.1 bt290.1 bt296.1 true)) else (laws_FnRanks.j1 kj2 bt266.1 bt266.2 bt274.1 bt282.1 bt290.1 bt296.1 true)) else (laws_FnRanks.j1 kj2 bt266.1 bt266.2 bt274.1 bt282.1 bt290.1 bt296.1 true))) else (laws_FnRanks.j1 kj2 bt266.1 bt266.2 bt274.1 bt282.1 bt290.1 bt296.1 true)) else (laws_FnRanks.j1 kj2 bt266.1 bt266.2 bt274.1 bt282.1 bt290.1 bt296.1 true)) else (laws_FnRanks.j1 kj2 bt266.1 bt266.2 bt274.1 bt282.1 bt290.1 bt296.1 true)) else (laws_FnRanks.j1 kj2 bt266.1 bt266.2 bt274.1 bt282.1 bt290.1 bt296.1 true))) else (laws_FnRanks.j1 kj2 bt266.1 bt266.2 bt274.1 bt282.1 bt290.1 bt296.1 true)) else (laws_FnRanks.j1 kj2 bt266.1 bt266.2 bt274.1 bt282.1 bt290.1 bt296.1 true))))))))))) = some r := by rw [if_neg (show ¬ (false = true) by decide)] at H; exact H
    clear H
    have H := H1
    clear H1
    replace H := Option.bind_eq_some_iff.mp H
    obtain ⟨⟨t266, t267⟩, A80, H⟩ := H
    replace H : ((impl_RanksOf.f kj2 t266 t267).bind fun bt270 => ((spec_RanksOf.f kj2 t266 t267).bind fun bt274 => ((impl_RankSums.f kj2 t266 t267).bind fun bt278 => ((spec_RankSums.f kj2 t266 t267).bind fun bt282 => ((impl_SumOrder.f t266 t267).bind fun bt286 => ((spec_SumOrder.f kj2 t266 t267).bind fun bt290 => ((impl_SpreadOf.f kj2 t266 t267).bind fun bt294 => ((spec_SpreadOf.f kj2 t266 t267).bind fun bt296 => (if bt270.2 = bt274.2 then (if bt270.2 = 0 then ((spec_SameTables.f kj2 bt270.1 bt274.1).bind fun t298 => (if t298 = true then (if (bt274.1.length : Int) = (t267.length : Int) then (if bt278.2 = bt282.2 then (if bt278.2 = 0 then ((spec_SameNumbers.f kj2 bt278.1 bt282.1).bind fun t299 => (if t299 = true then (if (bt282.1.length : Int) = t266 then (if bt286.2 = bt290.2 then (if bt286.2 = 0 then ((spec_SameNumbers.f kj2 bt286.1 bt290.1).bind fun t300 => (if t300 = true then ((impl_IsOrder.f t266 bt290.1).bind fun t301 => (if t301 = true then (if bt294.2 = bt296.2 then (if bt294.2 = 0 then (if bt294.1 = bt296.1 then (laws_FnRanks.j1 kj2 t266 t267 bt274.1 bt282.1 bt290.1 bt296.1 (decide (bt296.1 < 0))) else (laws_FnRanks.j1 kj2 t266 t267 bt274.1 bt282.1 bt290.1 bt296.1 true)) else (laws_FnRanks.j1 kj2 t266 t267 bt274.1 bt282.1 bt290.1 bt296.1 true)) else (laws_FnRanks.j1 kj2 t266 t267 bt274.1 bt282.1 bt290.1 bt296.1 true)) else (laws_FnRanks.j1 kj2 t266 t267 bt274.1 bt282.1 bt290.1 bt296.1 true))) else (laws_FnRanks.j1 kj2 t266 t267 bt274.1 bt282.1 bt290.1 bt296.1 true))) else (laws_FnRanks.j1 kj2 t266 t267 bt274.1 bt282.1 bt290.1 bt296.1 true)) else (laws_FnRanks.j1 kj2 t266 t267 bt274.1 bt282.1 bt290.1 bt296.1 true)) else (laws_FnRanks.j1 kj2 t266 t267 bt274.1 bt282.1 bt290.1 bt296.1 true)) else (laws_FnRanks.j1 kj2 t266 t267 bt274.1 bt282.1 bt290.1 bt296.1 true))) else (laws_FnRanks.j1 kj2 t266 t267 bt274.1 bt282.1 bt290.1 bt296.1 true)) else (laws_FnRanks.j1 kj2 t266 t267 bt274.1 bt282.1 bt290.1 bt296.1 true)) else (laws_FnRanks.j1 kj2 t266 t267 bt274.1 bt282.1 bt290.1 bt296.1 true)) else (laws_FnRanks.j1 kj2 t266 t267 bt274.1 bt282.1 bt290.1 bt296.1 true))) else (laws_FnRanks.j1 kj2 t266 t267 bt274.1 bt282.1 bt290.1 bt296.1 true)) else (laws_FnRanks.j1 kj2 t266 t267 bt274.1 bt282.1 bt290.1 bt296.1 true)))))))))) = some r := H
    have A8 := Aside0.mk A80
    clear A80
    replace H := Option.bind_eq_some_iff.mp H
    obtain ⟨⟨t270, t271⟩, A90, H⟩ := H
    replace H : ((spec_RanksOf.f kj2 t266 t267).bind fun bt274 => ((impl_RankSums.f kj2 t266 t267).bind fun bt278 => ((spec_RankSums.f kj2 t266 t267).bind fun bt282 => ((impl_SumOrder.f t266 t267).bind fun bt286 => ((spec_SumOrder.f kj2 t266 t267).bind fun bt290 => ((impl_SpreadOf.f kj2 t266 t267).bind fun bt294 => ((spec_SpreadOf.f kj2 t266 t267).bind fun bt296 => (if t271 = bt274.2 then (if t271 = 0 then ((spec_SameTables.f kj2 t270 bt274.1).bind fun t298 => (if t298 = true then (if (bt274.1.length : Int) = (t267.length : Int) then (if bt278.2 = bt282.2 then (if bt278.2 = 0 then ((spec_SameNumbers.f kj2 bt278.1 bt282.1).bind fun t299 => (if t299 = true then (if (bt282.1.length : Int) = t266 then (if bt286.2 = bt290.2 then (if bt286.2 = 0 then ((spec_SameNumbers.f kj2 bt286.1 bt290.1).bind fun t300 => (if t300 = true then ((impl_IsOrder.f t266 bt290.1).bind fun t301 => (if t301 = true then (if bt294.2 = bt296.2 then (if bt294.2 = 0 then (if bt294.1 = bt296.1 then (laws_FnRanks.j1 kj2 t266 t267 bt274.1 bt282.1 bt290.1 bt296.1 (decide (bt296.1 < 0))) else (laws_FnRanks.j1 kj2 t266 t267 bt274.1 bt282.1 bt290.1 bt296.1 true)) else (laws_FnRanks.j1 kj2 t266 t267 bt274.1 bt282.1 bt290.1 bt296.1 true)) else (laws_FnRanks.j1 kj2 t266 t267 bt274.1 bt282.1 bt290.1 bt296.1 true)) else (laws_FnRanks.j1 kj2 t266 t267 bt274.1 bt282.1 bt290.1 bt296.1 true))) else (laws_FnRanks.j1 kj2 t266 t267 bt274.1 bt282.1 bt290.1 bt296.1 true))) else (laws_FnRanks.j1 kj2 t266 t267 bt274.1 bt282.1 bt290.1 bt296.1 true)) else (laws_FnRanks.j1 kj2 t266 t267 bt274.1 bt282.1 bt290.1 bt296.1 true)) else (laws_FnRanks.j1 kj2 t266 t267 bt274.1 bt282.1 bt290.1 bt296.1 true)) else (laws_FnRanks.j1 kj2 t266 t267 bt274.1 bt282.1 bt290.1 bt296.1 true))) else (laws_FnRanks.j1 kj2 t266 t267 bt274.1 bt282.1 bt290.1 bt296.1 true)) else (laws_FnRanks.j1 kj2 t266 t267 bt274.1 bt282.1 bt290.1 bt296.1 true)) else (laws_FnRanks.j1 kj2 t266 t267 bt274.1 bt282.1 bt290.1 bt296.1 true)) else (laws_FnRanks.j1 kj2 t266 t267 bt274.1 bt282.1 bt290.1 bt296.1 true))) else (laws_FnRanks.j1 kj2 t266 t267 bt274.1 bt282.1 bt290.1 bt296.1 true)) else (laws_FnRanks.j1 kj2 t266 t267 bt274.1 bt282.1 bt290.1 bt296.1 true))))))))) = some r := H
    have A9 := Aside0.mk A90
    clear A90
    replace H := Option.bind_eq_some_iff.mp H
    obtain ⟨⟨t274, t275⟩, A100, H⟩ := H
    replace H : ((impl_RankSums.f kj2 t266 t267).bind fun bt278 => ((spec_RankSums.f kj2 t266 t267).bind fun bt282 => ((impl_SumOrder.f t266 t267).bind fun bt286 => ((spec_SumOrder.f kj2 t266 t267).bind fun bt290 => ((impl_SpreadOf.f kj2 t266 t267).bind fun bt294 => ((spec_SpreadOf.f kj2 t266 t267).bind fun bt296 => (if t271 = t275 then (if t271 = 0 then ((spec_SameTables.f kj2 t270 t274).bind fun t298 => (if t298 = true then (if (t274.length : Int) = (t267.length : Int) then (if bt278.2 = bt282.2 then (if bt278.2 = 0 then ((spec_SameNumbers.f kj2 bt278.1 bt282.1).bind fun t299 => (if t299 = true then (if (bt282.1.length : Int) = t266 then (if bt286.2 = bt290.2 then (if bt286.2 = 0 then ((spec_SameNumbers.f kj2 bt286.1 bt290.1).bind fun t300 => (if t300 = true then ((impl_IsOrder.f t266 bt290.1).bind fun t301 => (if t301 = true then (if bt294.2 = bt296.2 then (if bt294.2 = 0 then (if bt294.1 = bt296.1 then (laws_FnRanks.j1 kj2 t266 t267 t274 bt282.1 bt290.1 bt296.1 (decide (bt296.1 < 0))) else (laws_FnRanks.j1 kj2 t266 t267 t274 bt282.1 bt290.1 bt296.1 true)) else (laws_FnRanks.j1 kj2 t266 t267 t274 bt282.1 bt290.1 bt296.1 true)) else (laws_FnRanks.j1 kj2 t266 t267 t274 bt282.1 bt290.1 bt296.1 true)) else (laws_FnRanks.j1 kj2 t266 t267 t274 bt282.1 bt290.1 bt296.1 true))) else (laws_FnRanks.j1 kj2 t266 t267 t274 bt282.1 bt290.1 bt296.1 true))) else (laws_FnRanks.j1 kj2 t266 t267 t274 bt282.1 bt290.1 bt296.1 true)) else (laws_FnRanks.j1 kj2 t266 t267 t274 bt282.1 bt290.1 bt296.1 true)) else (laws_FnRanks.j1 kj2 t266 t267 t274 bt282.1 bt290.1 bt296.1 true)) else (laws_FnRanks.j1 kj2 t266 t267 t274 bt282.1 bt290.1 bt296.1 true))) else (laws_FnRanks.j1 kj2 t266 t267 t274 bt282.1 bt290.1 bt296.1 true)) else (laws_FnRanks.j1 kj2 t266 t267 t274 bt282.1 bt290.1 bt296.1 true)) else (laws_FnRanks.j1 kj2 t266 t267 t274 bt282.1 bt290.1 bt296.1 true)) else (laws_FnRanks.j1 kj2 t266 t267 t274 bt282.1 bt290.1 bt296.1 true))) else (laws_FnRanks.j1 kj2 t266 t267 t274 bt282.1 bt290.1 bt296.1 true)) else (laws_FnRanks.j1 kj2 t266 t267 t274 bt282.1 bt290.1 bt296.1 true)))))))) = some r := H
    have A10 := Aside0.mk A100
    clear A100
    replace H := Option.bind_eq_some_iff.mp H
    obtain ⟨⟨t278, t279⟩, A110, H⟩ := H
    replace H : ((spec_RankSums.f kj2 t266 t267).bind fun bt282 => ((impl_SumOrder.f t266 t267).bind fun bt286 => ((spec_SumOrder.f kj2 t266 t267).bind fun bt290 => ((impl_SpreadOf.f kj2 t266 t267).bind fun bt294 => ((spec_SpreadOf.f kj2 t266 t267).bind fun bt296 => (if t271 = t275 then (if t271 = 0 then ((spec_SameTables.f kj2 t270 t274).bind fun t298 => (if t298 = true then (if (t274.length : Int) = (t267.length : Int) then (if t279 = bt282.2 then (if t279 = 0 then ((spec_SameNumbers.f kj2 t278 bt282.1).bind fun t299 => (if t299 = true then (if (bt282.1.length : Int) = t266 then (if bt286.2 = bt290.2 then (if bt286.2 = 0 then ((spec_SameNumbers.f kj2 bt286.1 bt290.1).bind fun t300 => (if t300 = true then ((impl_IsOrder.f t266 bt290.1).bind fun t301 => (if t301 = true then (if bt294.2 = bt296.2 then (if bt294.2 = 0 then (if bt294.1 = bt296.1 then (laws_FnRanks.j1 kj2 t266 t267 t274 bt282.1 bt290.1 bt296.1 (decide (bt296.1 < 0))) else (laws_FnRanks.j1 kj2 t266 t267 t274 bt282.1 bt290.1 bt296.1 true)) else (laws_FnRanks.j1 kj2 t266 t267 t274 bt282.1 bt290.1 bt296.1 true)) else (laws_FnRanks.j1 kj2 t266 t267 t274 bt282.1 bt290.1 bt296.1 true)) else (laws_FnRanks.j1 kj2 t266 t267 t274 bt282.1 bt290.1 bt296.1 true))) else (laws_FnRanks.j1 kj2 t266 t267 t274 bt282.1 bt290.1 bt296.1 true))) else (laws_FnRanks.j1 kj2 t266 t267 t274 bt282.1 bt290.1 bt296.1 true)) else (laws_FnRanks.j1 kj2 t266 t267 t274 bt282.1 bt290.1 bt296.1 true)) else (laws_FnRanks.j1 kj2 t266 t267 t274 bt282.1 bt290.1 bt296.1 true)) else (laws_FnRanks.j1 kj2 t266 t267 t274 bt282.1 bt290.1 bt296.1 true))) else (laws_FnRanks.j1 kj2 t266 t267 t274 bt282.1 bt290.1 bt296.1 true)) else (laws_FnRanks.j1 kj2 t266 t267 t274 bt282.1 bt290.1 bt296.1 true)) else (laws_FnRanks.j1 kj2 t266 t267 t274 bt282.1 bt290.1 bt296.1 true)) else (laws_FnRanks.j1 kj2 t266 t267 t274 bt282.1 bt290.1 bt296.1 true))) else (laws_FnRanks.j1 kj2 t266 t267 t274 bt282.1 bt290.1 bt296.1 true)) else (laws_FnRanks.j1 kj2 t266 t267 t274 bt282.1 bt290.1 bt296.1 true))))))) = some r := H
    have A11 := Aside0.mk A110
    clear A110
    replace H := Option.bind_eq_some_iff.mp H
    obtain ⟨⟨t282, t283⟩, A120, H⟩ := H
    replace H : ((impl_SumOrder.f t266 t267).bind fun bt286 => ((spec_SumOrder.f kj2 t266 t267).bind fun bt290 => ((impl_SpreadOf.f kj2 t266 t267).bind fun bt294 => ((spec_SpreadOf.f kj2 t266 t267).bind fun bt296 => (if t271 = t275 then (if t271 = 0 then ((spec_SameTables.f kj2 t270 t274).bind fun t298 => (if t298 = true then (if (t274.length : Int) = (t267.length : Int) then (if t279 = t283 then (if t279 = 0 then ((spec_SameNumbers.f kj2 t278 t282).bind fun t299 => (if t299 = true then (if (t282.length : Int) = t266 then (if bt286.2 = bt290.2 then (if bt286.2 = 0 then ((spec_SameNumbers.f kj2 bt286.1 bt290.1).bind fun t300 => (if t300 = true then ((impl_IsOrder.f t266 bt290.1).bind fun t301 => (if t301 = true then (if bt294.2 = bt296.2 then (if bt294.2 = 0 then (if bt294.1 = bt296.1 then (laws_FnRanks.j1 kj2 t266 t267 t274 t282 bt290.1 bt296.1 (decide (bt296.1 < 0))) else (laws_FnRanks.j1 kj2 t266 t267 t274 t282 bt290.1 bt296.1 true)) else (laws_FnRanks.j1 kj2 t266 t267 t274 t282 bt290.1 bt296.1 true)) else (laws_FnRanks.j1 kj2 t266 t267 t274 t282 bt290.1 bt296.1 true)) else (laws_FnRanks.j1 kj2 t266 t267 t274 t282 bt290.1 bt296.1 true))) else (laws_FnRanks.j1 kj2 t266 t267 t274 t282 bt290.1 bt296.1 true))) else (laws_FnRanks.j1 kj2 t266 t267 t274 t282 bt290.1 bt296.1 true)) else (laws_FnRanks.j1 kj2 t266 t267 t274 t282 bt290.1 bt296.1 true)) else (laws_FnRanks.j1 kj2 t266 t267 t274 t282 bt290.1 bt296.1 true)) else (laws_FnRanks.j1 kj2 t266 t267 t274 t282 bt290.1 bt296.1 true))) else (laws_FnRanks.j1 kj2 t266 t267 t274 t282 bt290.1 bt296.1 true)) else (laws_FnRanks.j1 kj2 t266 t267 t274 t282 bt290.1 bt296.1 true)) else (laws_FnRanks.j1 kj2 t266 t267 t274 t282 bt290.1 bt296.1 true)) else (laws_FnRanks.j1 kj2 t266 t267 t274 t282 bt290.1 bt296.1 true))) else (laws_FnRanks.j1 kj2 t266 t267 t274 t282 bt290.1 bt296.1 true)) else (laws_FnRanks.j1 kj2 t266 t267 t274 t282 bt290.1 bt296.1 true)))))) = some r := H
    have A12 := Aside0.mk A120
    clear A120
    replace H := Option.bind_eq_some_iff.mp H
    obtain ⟨⟨t286, t287⟩, A130, H⟩ := H
    replace H : ((spec_SumOrder.f kj2 t266 t267).bind fun bt290 => ((impl_SpreadOf.f kj2 t266 t267).bind fun bt294 => ((spec_SpreadOf.f kj2 t266 t267).bind fun bt296 => (if t271 = t275 then (if t271 = 0 then ((spec_SameTables.f kj2 t270 t274).bind fun t298 => (if t298 = true then (if (t274.length : Int) = (t267.length : Int) then (if t279 = t283 then (if t279 = 0 then ((spec_SameNumbers.f kj2 t278 t282).bind fun t299 => (if t299 = true then (if (t282.length : Int) = t266 then (if t287 = bt290.2 then (if t287 = 0 then ((spec_SameNumbers.f kj2 t286 bt290.1).bind fun t300 => (if t300 = true then ((impl_IsOrder.f t266 bt290.1).bind fun t301 => (if t301 = true then (if bt294.2 = bt296.2 then (if bt294.2 = 0 then (if bt294.1 = bt296.1 then (laws_FnRanks.j1 kj2 t266 t267 t274 t282 bt290.1 bt296.1 (decide (bt296.1 < 0))) else (laws_FnRanks.j1 kj2 t266 t267 t274 t282 bt290.1 bt296.1 true)) else (laws_FnRanks.j1 kj2 t266 t267 t274 t282 bt290.1 bt296.1 true)) else (laws_FnRanks.j1 kj2 t266 t267 t274 t282 bt290.1 bt296.1 true)) else (laws_FnRanks.j1 kj2 t266 t267 t274 t282 bt290.1 bt296.1 true))) else (laws_FnRanks.j1 kj2 t266 t267 t274 t282 bt290.1 bt296.1 true))) else (laws_FnRanks.j1 kj2 t266 t267 t274 t282 bt290.1 bt296.1 true)) else (laws_FnRanks.j1 kj2 t266 t267 t274 t282 bt290.1 bt296.1 true)) else (laws_FnRanks.j1 kj2 t266 t267 t274 t282 bt290.1 bt296.1 true)) else (laws_FnRanks.j1 kj2 t266 t267 t274 t282 bt290.1 bt296.1 true))) else (laws_FnRanks.j1 kj2 t266 t267 t274 t282 bt290.1 bt296.1 true)) else (laws_FnRanks.j1 kj2 t266 t267 t274 t282 bt290.1 bt296.1 true)) else (laws_FnRanks.j1 kj2 t266 t267 t274 t282 bt290.1 bt296.1 true)) else (laws_FnRanks.j1 kj2 t266 t267 t274 t282 bt290.1 bt296.1 true))) else (laws_FnRanks.j1 kj2 t266 t267 t274 t282 bt290.1 bt296.1 true)) else (laws_FnRanks.j1 kj2 t266 t267 t274 t282 bt290.1 bt296.1 true))))) = some r := H
    have A13 := Aside0.mk A130
    clear A130
    replace H := Option.bind_eq_some_iff.mp H
    obtain ⟨⟨t290, t291⟩, A140, H⟩ := H
    replace H : ((impl_SpreadOf.f kj2 t266 t267).bind fun bt294 => ((spec_SpreadOf.f kj2 t266 t267).bind fun bt296 => (if t271 = t275 then (if t271 = 0 then ((spec_SameTables.f kj2 t270 t274).bind fun t298 => (if t298 = true then (if (t274.length : Int) = (t267.length : Int) then (if t279 = t283 then (if t279 = 0 then ((spec_SameNumbers.f kj2 t278 t282).bind fun t299 => (if t299 = true then (if (t282.length : Int) = t266 then (if t287 = t291 then (if t287 = 0 then ((spec_SameNumbers.f kj2 t286 t290).bind fun t300 => (if t300 = true then ((impl_IsOrder.f t266 t290).bind fun t301 => (if t301 = true then (if bt294.2 = bt296.2 then (if bt294.2 = 0 then (if bt294.1 = bt296.1 then (laws_FnRanks.j1 kj2 t266 t267 t274 t282 t290 bt296.1 (decide (bt296.1 < 0))) else (laws_FnRanks.j1 kj2 t266 t267 t274 t282 t290 bt296.1 true)) else (laws_FnRanks.j1 kj2 t266 t267 t274 t282 t290 bt296.1 true)) else (laws_FnRanks.j1 kj2 t266 t267 t274 t282 t290 bt296.1 true)) else (laws_FnRanks.j1 kj2 t266 t267 t274 t282 t290 bt296.1 true))) else (laws_FnRanks.j1 kj2 t266 t267 t274 t282 t290 bt296.1 true))) else (laws_FnRanks.j1 kj2 t266 t267 t274 t282 t290 bt296.1 true)) else (laws_FnRanks.j1 kj2 t266 t267 t274 t282 t290 bt296.1 true)) else (laws_FnRanks.j1 kj2 t266 t267 t274 t282 t290 bt296.1 true)) else (laws_FnRanks.j1 kj2 t266 t267 t274 t282 t290 bt296.1 true))) else (laws_FnRanks.j1 kj2 t266 t267 t274 t282 t290 bt296.1 true)) else (laws_FnRanks.j1 kj2 t266 t267 t274 t282 t290 bt296.1 true)) else (laws_FnRanks.j1 kj2 t266 t267 t274 t282 t290 bt296.1 true)) else (laws_FnRanks.j1 kj2 t266 t267 t274 t282 t290 bt296.1 true))) else (laws_FnRanks.j1 kj2 t266 t267 t274 t282 t290 bt296.1 true)) else (laws_FnRanks.j1 kj2 t266 t267 t274 t282 t290 bt296.1 true)))) = some r := H
    have A14 := Aside0.mk A140
    clear A140
    replace H := Option.bind_eq_some_iff.mp H
    obtain ⟨⟨t294, t295⟩, A150, H⟩ := H
    replace H : ((spec_SpreadOf.f kj2 t266 t267).bind fun bt296 => (if t271 = t275 then (if t271 = 0 then ((spec_SameTables.f kj2 t270 t274).bind fun t298 => (if t298 = true then (if (t274.length : Int) = (t267.length : Int) then (if t279 = t283 then (if t279 = 0 then ((spec_SameNumbers.f kj2 t278 t282).bind fun t299 => (if t299 = true then (if (t282.length : Int) = t266 then (if t287 = t291 then (if t287 = 0 then ((spec_SameNumbers.f kj2 t286 t290).bind fun t300 => (if t300 = true then ((impl_IsOrder.f t266 t290).bind fun t301 => (if t301 = true then (if t295 = bt296.2 then (if t295 = 0 then (if t294 = bt296.1 then (laws_FnRanks.j1 kj2 t266 t267 t274 t282 t290 bt296.1 (decide (bt296.1 < 0))) else (laws_FnRanks.j1 kj2 t266 t267 t274 t282 t290 bt296.1 true)) else (laws_FnRanks.j1 kj2 t266 t267 t274 t282 t290 bt296.1 true)) else (laws_FnRanks.j1 kj2 t266 t267 t274 t282 t290 bt296.1 true)) else (laws_FnRanks.j1 kj2 t266 t267 t274 t282 t290 bt296.1 true))) else (laws_FnRanks.j1 kj2 t266 t267 t274 t282 t290 bt296.1 true))) else (laws_FnRanks.j1 kj2 t266 t267 t274 t282 t290 bt296.1 true)) else (laws_FnRanks.j1 kj2 t266 t267 t274 t282 t290 bt296.1 true)) else (laws_FnRanks.j1 kj2 t266 t267 t274 t282 t290 bt296.1 true)) else (laws_FnRanks.j1 kj2 t266 t267 t274 t282 t290 bt296.1 true))) else (laws_FnRanks.j1 kj2 t266 t267 t274 t282 t290 bt296.1 true)) else (laws_FnRanks.j1 kj2 t266 t267 t274 t282 t290 bt296.1 true)) else (laws_FnRanks.j1 kj2 t266 t267 t274 t282 t290 bt296.1 true)) else (laws_FnRanks.j1 kj2 t266 t267 t274 t282 t290 bt296.1 true))) else (laws_FnRanks.j1 kj2 t266 t267 t274 t282 t290 bt296.1 true)) else (laws_FnRanks.j1 kj2 t266 t267 t274 t282 t290 bt296.1 true))) = some r := H
    have A15 := Aside0.mk A150
    clear A150
    replace H := Option.bind_eq_some_iff.mp H
    obtain ⟨⟨t296, t297⟩, A160, H⟩ := H
    replace H : (if t271 = t275 then (if t271 = 0 then ((spec_SameTables.f kj2 t270 t274).bind fun t298 => (if t298 = true then (if (t274.length : Int) = (t267.length : Int) then (if t279 = t283 then (if t279 = 0 then ((spec_SameNumbers.f kj2 t278 t282).bind fun t299 => (if t299 = true then (if (t282.length : Int) = t266 then (if t287 = t291 then (if t287 = 0 then ((spec_SameNumbers.f kj2 t286 t290).bind fun t300 => (if t300 = true then ((impl_IsOrder.f t266 t290).bind fun t301 => (if t301 = true then (if t295 = t297 then (if t295 = 0 then (if t294 = t296 then (laws_FnRanks.j1 kj2 t266 t267 t274 t282 t290 t296 (decide (t296 < 0))) else (laws_FnRanks.j1 kj2 t266 t267 t274 t282 t290 t296 true)) else (laws_FnRanks.j1 kj2 t266 t267 t274 t282 t290 t296 true)) else (laws_FnRanks.j1 kj2 t266 t267 t274 t282 t290 t296 true)) else (laws_FnRanks.j1 kj2 t266 t267 t274 t282 t290 t296 true))) else (laws_FnRanks.j1 kj2 t266 t267 t274 t282 t290 t296 true))) else (laws_FnRanks.j1 kj2 t266 t267 t274 t282 t290 t296 true)) else (laws_FnRanks.j1 kj2 t266 t267 t274 t282 t290 t296 true)) else (laws_FnRanks.j1 kj2 t266 t267 t274 t282 t290 t296 true)) else (laws_FnRanks.j1 kj2 t266 t267 t274 t282 t290 t296 true))) else (laws_FnRanks.j1 kj2 t266 t267 t274 t282 t290 t296 true)) else (laws_FnRanks.j1 kj2 t266 t267 t274 t282 t290 t296 true)) else (laws_FnRanks.j1 kj2 t266 t267 t274 t282 t290 t296 true)) else (laws_FnRanks.j1 kj2 t266 t267 t274 t282 t290 t296 true))) else (laws_FnRanks.j1 kj2 t266 t267 t274 t282 t290 t296 true)) else (laws_FnRanks.j1 kj2 t266 t267 t274 t282 t290 t296 true)) = some r := H
    have A16 := Aside0.mk A160
    clear A160
    have HC17 := Aside0.mk H
    clear H
    go_upto_region 12 with (first | ((with_reducible refine gate_callee (f := 18) rfl ?_); refine goesL_ (some 43) rfl rfl Try.func18 (by kernel_rfl) rfl #[.slice A0 l0.length c0] rfl (by (try simp only [List.map_toArray, List.map_cons, List.map_nil]); first | done | rfl | (simp only [List.length_drop, List.length_take]; rfl)) ?_; (with_reducible refine (spec_P6Marks.calls kj2 _ _ l0 t266 t267 _ ?side1 ?side2 A8.out).mono ?_); (case side1 => repeat (first | exact (Kd.C_below HR0.out HB.out) | (with_reducible refine Kd.C_alloc ?_ _) | (with_reducible refine Kd.C_drewN ?_ _) | (with_reducible refine Kd.C_drew ?_))); (case side2 => exact HC0.out); rintro e w18 ⟨v268, rfl, ho0, hb⟩; refine ⟨_, rfl, ?_⟩; have n0_ := Aside0.mk (Kd.S_lower ho0 (below_size (by repeat (first | (with_reducible first | exact HB.out | apply below_alloc | apply pw_below_drewN | apply below_drew1) | exact HB.out)))); have n1_ := Aside0.mk (below_step (by repeat (first | (with_reducible first | exact HB.out | apply below_alloc | apply pw_below_drewN | apply below_drew1) | exact HB.out)) hb); clear HB; have HO269 := n0_; have HB := n1_; clear n0_ n1_; (try clear hb); (try clear hb2); (try clear hk); (try clear hi); (try clear ho0); obtain ⟨Ao19, co19, eo19⟩ := Kd.S_slice HO269.out; subst eo19) | ((with_reducible refine gate_callee (f := 19) rfl ?_); refine goesL_ (some 49) rfl rfl Try.func19 (by kernel_rfl) rfl #[.int .i64 t266, .slice Ao19 t267.length co19] rfl (by (try simp only [List.map_toArray, List.map_cons, List.map_nil]); first | done | rfl | (simp only [List.length_drop, List.length_take]; rfl)) ?_; (with_reducible refine (impl_RanksOf.calls kj2 t266 _ _ t267 t270 t271 _ ?side1 ?side2 A9.out).mono ?_); (case side1 => repeat (first | exact (Kd.S_reads' HO269.out).2.2 | (with_reducible refine Kd.C_alloc ?_ _) | (with_reducible refine Kd.C_drewN ?_ _) | (with_reducible refine Kd.C_drew ?_))); (case side2 => exact (Kd.S_reads' HO269.out).2.1); rintro e w20 ⟨v272, rfl, ho0, hb⟩; refine ⟨_, rfl, ?_⟩; have n0_ := Aside0.mk (Kd.S_elder' (by (with_reducible repeat (first | apply Kd.S_alloc | apply Kd.S_drewN | apply Kd.S_drew)); exact HO269.out) (Kd.S_base ho0) hb); have n1_ := Aside0.mk (Kd.S_lower (Kd.S_new' ho0 (Kd.S_lt (by (with_reducible repeat (first | apply Kd.S_alloc | apply Kd.S_drewN | apply Kd.S_drew)); exact HO269.out))) (below_size (by repeat (first | (with_reducible first | exact HB.out | apply below_alloc | apply pw_below_drewN | apply below_drew1) | exact HB.out)))); have n2_ := Aside0.mk (below_step (by repeat (first | (with_reducible first | exact HB.out | apply below_alloc | apply pw_below_drewN | apply below_drew1) | exact HB.out)) hb); clear HO269; clear HB; have HO269 := n0_; have HO273 := n1_; have HB := n2_; clear n0_ n1_ n2_; (try clear hb); (try clear hb2); (try clear hk); (try clear hi); (try clear ho0)) | ((with_reducible refine gate_callee (f := 20) rfl ?_); refine goesL_ (some 55) rfl rfl Try.func20 (by kernel_rfl) rfl #[.int .i64 t266, .slice Ao19 t267.length co19] rfl (by (try simp only [List.map_toArray, List.map_cons, List.map_nil]); first | done | rfl | (simp only [List.length_drop, List.length_take]; rfl)) ?_; (with_reducible refine (spec_RanksOf.calls kj2 t266 _ _ t267 t274 t275 _ ?side1 ?side2 A10.out).mono ?_); (case side1 => repeat (first | exact (Kd.S_reads' HO269.out).2.2 | (with_reducible refine Kd.C_alloc ?_ _) | (with_reducible refine Kd.C_drewN ?_ _) | (with_reducible refine Kd.C_drew ?_))); (case side2 => exact (Kd.S_reads' HO269.out).2.1); rintro e w21 ⟨v276, rfl, ho0, hb⟩; refine ⟨_, rfl, ?_⟩; have n0_ := Aside0.mk (Kd.S_elder' (by (with_reducible repeat (first | apply Kd.S_alloc | apply Kd.S_drewN | apply Kd.S_drew)); exact HO269.out) (Kd.S_base ho0) hb); have n1_ := Aside0.mk (Kd.S_elder' (by (with_reducible repeat (first | apply Kd.S_alloc | apply Kd.S_drewN | apply Kd.S_drew)); exact HO273.out) (Kd.S_base ho0) hb); have n2_ := Aside0.mk (Kd.S_lower (Kd.S_new' (Kd.S_new' ho0 (Kd.S_lt (by (with_reducible repeat (first | apply Kd.S_alloc | apply Kd.S_drewN | apply Kd.S_drew)); exact HO269.out))) (Kd.S_lt (by (with_reducible repeat (first | apply Kd.S_alloc | apply Kd.S_drewN | apply Kd.S_drew)); exact HO273.out))) (below_size (by repeat (first | (with_reducible first | exact HB.out | apply below_alloc | apply pw_below_drewN | apply below_drew1) | exact HB.out)))); have n3_ := Aside0.mk (below_step (by repeat (first | (with_reducible first | exact HB.out | apply below_alloc | apply pw_below_drewN | apply below_drew1) | exact HB.out)) hb); clear HO269; clear HO273; clear HB; have HO269 := n0_; have HO273 := n1_; have HO277 := n2_; have HB := n3_; clear n0_ n1_ n2_ n3_; (try clear hb); (try clear hb2); (try clear hk); (try clear hi); (try clear ho0)) | ((with_reducible refine gate_callee (f := 21) rfl ?_); refine goesL_ (some 61) rfl rfl Try.func21 (by kernel_rfl) rfl #[.int .i64 t266, .slice Ao19 t267.length co19] rfl (by (try simp only [List.map_toArray, List.map_cons, List.map_nil]); first | done | rfl | (simp only [List.length_drop, List.length_take]; rfl)) ?_; (with_reducible refine (impl_RankSums.calls kj2 t266 _ _ t267 t278 t279 _ ?side1 ?side2 A11.out).mono ?_); (case side1 => repeat (first | exact (Kd.S_reads' HO269.out).2.2 | (with_reducible refine Kd.C_alloc ?_ _) | (with_reducible refine Kd.C_drewN ?_ _) | (with_reducible refine Kd.C_drew ?_))); (case side2 => exact (Kd.S_reads' HO269.out).2.1); rintro e w22 ⟨v280, rfl, ho0, hb⟩; refine ⟨_, rfl, ?_⟩; have n0_ := Aside0.mk (Kd.S_elder' (by (with_reducible repeat (first | apply Kd.S_alloc | apply Kd.S_drewN | apply Kd.S_drew)); exact HO269.out) (Kd.R_base ho0) hb); have n1_ := Aside0.mk (Kd.S_elder' (by (with_reducible repeat (first | apply Kd.S_alloc | apply Kd.S_drewN | apply Kd.S_drew)); exact HO273.out) (Kd.R_base ho0) hb); have n2_ := Aside0.mk (Kd.S_elder' (by (with_reducible repeat (first | apply Kd.S_alloc | apply Kd.S_drewN | apply Kd.S_drew)); exact HO277.out) (Kd.R_base ho0) hb); have n3_ := Aside0.mk (Kd.R_lower ho0 (below_size (by repeat (first | (with_reducible first | exact HB.out | apply below_alloc | apply pw_below_drewN | apply below_drew1) | exact HB.out)))); have n4_ := Aside0.mk (below_step (by repeat (first | (with_reducible first | exact HB.out | apply below_alloc | apply pw_below_drewN | apply below_drew1) | exact HB.out)) hb); clear HO269; clear HO273; clear HO277; clear HB; have HO269 := n0_; have HO273 := n1_; have HO277 := n2_; have HO281 := n3_; have HB := n4_; clear n0_ n1_ n2_ n3_ n4_; (try clear hb); (try clear hb2); (try clear hk); (try clear hi); (try clear ho0)) | ((with_reducible refine gate_callee (f := 22) rfl ?_); refine goesL_ (some 67) rfl rfl Try.func22 (by kernel_rfl) rfl #[.int .i64 t266, .slice Ao19 t267.length co19] rfl (by (try simp only [List.map_toArray, List.map_cons, List.map_nil]); first | done | rfl | (simp only [List.length_drop, List.length_take]; rfl)) ?_; (with_reducible refine (spec_RankSums.calls kj2 t266 _ _ t267 t282 t283 _ ?side1 ?side2 A12.out).mono ?_); (case side1 => repeat (first | exact (Kd.S_reads' HO269.out).2.2 | (with_reducible refine Kd.C_alloc ?_ _) | (with_reducible refine Kd.C_drewN ?_ _) | (with_reducible refine Kd.C_drew ?_))); (case side2 => exact (Kd.S_reads' HO269.out).2.1); rintro e w23 ⟨v284, rfl, ho0, hb⟩; refine ⟨_, rfl, ?_⟩; have n0_ := Aside0.mk (Kd.S_elder' (by (with_reducible repeat (first | apply Kd.S_alloc | apply Kd.S_drewN | apply Kd.S_drew)); exact HO269.out) (Kd.R_base ho0) hb); have n1_ := Aside0.mk (Kd.S_elder' (by (with_reducible repeat (first | apply Kd.S_alloc | apply Kd.S_drewN | apply Kd.S_drew)); exact HO273.out) (Kd.R_base ho0) hb); have n2_ := Aside0.mk (Kd.S_elder' (by (with_reducible repeat (first | apply Kd.S_alloc | apply Kd.S_drewN | apply Kd.S_drew)); exact HO277.out) (Kd.R_base ho0) hb); have n3_ := Aside0.mk (Kd.R_elder' (by (with_reducible repeat (first | apply Kd.R_alloc | apply Kd.R_drewN | apply Kd.R_drew)); exact HO281.out) (Kd.R_base ho0) hb); have n4_ := Aside0.mk (Kd.R_lower (Kd.R_new' ho0 (Kd.R_lt (by (with_reducible repeat (first | apply Kd.R_alloc | apply Kd.R_drewN | apply Kd.R_drew)); exact HO281.out))) (below_size (by repeat (first | (with_reducible first | exact HB.out | apply below_alloc | apply pw_below_drewN | apply below_drew1) | exact HB.out)))); have n5_ := Aside0.mk (below_step (by repeat (first | (with_reducible first | exact HB.out | apply below_alloc | apply pw_below_drewN | apply below_drew1) | exact HB.out)) hb); clear HO269; clear HO273; clear HO277; clear HO281; clear HB; have HO269 := n0_; have HO273 := n1_; have HO277 := n2_; have HO281 := n3_; have HO285 := n4_; have HB := n5_; clear n0_ n1_ n2_ n3_ n4_ n5_; (try clear hb); (try clear hb2); (try clear hk); (try clear hi); (try clear ho0)) | ((with_reducible refine gate_callee (f := 23) rfl ?_); refine goesL_ (some 73) rfl rfl Try.func23 (by kernel_rfl) rfl #[.int .i64 t266, .slice Ao19 t267.length co19] rfl (by (try simp only [List.map_toArray, List.map_cons, List.map_nil]); first | done | rfl | (simp only [List.length_drop, List.length_take]; rfl)) ?_; (with_reducible refine (impl_SumOrder.calls t266 _ _ t267 t286 t287 _ ?side1 ?side2 A13.out).mono ?_); (case side1 => repeat (first | exact (Kd.S_reads' HO269.out).2.2 | (with_reducible refine Kd.C_alloc ?_ _) | (with_reducible refine Kd.C_drewN ?_ _) | (with_reducible refine Kd.C_drew ?_))); (case side2 => exact (Kd.S_reads' HO269.out).2.1); rintro e w24 ⟨v288, rfl, ho0, hb⟩; refine ⟨_, rfl, ?_⟩; have n0_ := Aside0.mk (Kd.S_elder' (by (with_reducible repeat (first | apply Kd.S_alloc | apply Kd.S_drewN | apply Kd.S_drew)); exact HO269.out) (Kd.R_base ho0) hb); have n1_ := Aside0.mk (Kd.S_elder' (by (with_reducible repeat (first | apply Kd.S_alloc | apply Kd.S_drewN | apply Kd.S_drew)); exact HO273.out) (Kd.R_base ho0) hb); have n2_ := Aside0.mk (Kd.S_elder' (by (with_reducible repeat (first | apply Kd.S_alloc | apply Kd.S_drewN | apply Kd.S_drew)); exact HO277.out) (Kd.R_base ho0) hb); have n3_ := Aside0.mk (Kd.R_elder' (by (with_reducible repeat (first | apply Kd.R_alloc | apply Kd.R_drewN | apply Kd.R_drew)); exact HO281.out) (Kd.R_base ho0) hb); have n4_ := Aside0.mk (Kd.R_elder' (by (with_reducible repeat (first | apply Kd.R_alloc | apply Kd.R_drewN | apply Kd.R_drew)); exact HO285.out) (Kd.R_base ho0) hb); have n5_ := Aside0.mk (Kd.R_lower (Kd.R_new' (Kd.R_new' ho0 (Kd.R_lt (by (with_reducible repeat (first | apply Kd.R_alloc | apply Kd.R_drewN | apply Kd.R_drew)); exact HO281.out))) (Kd.R_lt (by (with_reducible repeat (first | apply Kd.R_alloc | apply Kd.R_drewN | apply Kd.R_drew)); exact HO285.out))) (below_size (by repeat (first | (with_reducible first | exact HB.out | apply below_alloc | apply pw_below_drewN | apply below_drew1) | exact HB.out)))); have n6_ := Aside0.mk (below_step (by repeat (first | (with_reducible first | exact HB.out | apply below_alloc | apply pw_below_drewN | apply below_drew1) | exact HB.out)) hb); clear HO269; clear HO273; clear HO277; clear HO281; clear HO285; clear HB; have HO269 := n0_; have HO273 := n1_; have HO277 := n2_; have HO281 := n3_; have HO285 := n4_; have HO289 := n5_; have HB := n6_; clear n0_ n1_ n2_ n3_ n4_ n5_ n6_; (try clear hb); (try clear hb2); (try clear hk); (try clear hi); (try clear ho0)) | ((with_reducible refine gate_callee (f := 24) rfl ?_); refine goesL_ (some 79) rfl rfl Try.func24 (by kernel_rfl) rfl #[.int .i64 t266, .slice Ao19 t267.length co19] rfl (by (try simp only [List.map_toArray, List.map_cons, List.map_nil]); first | done | rfl | (simp only [List.length_drop, List.length_take]; rfl)) ?_; (with_reducible refine (spec_SumOrder.calls kj2 t266 _ _ t267 t290 t291 _ ?side1 ?side2 A14.out).mono ?_); (case side1 => repeat (first | exact (Kd.S_reads' HO269.out).2.2 | (with_reducible refine Kd.C_alloc ?_ _) | (with_reducible refine Kd.C_drewN ?_ _) | (with_reducible refine Kd.C_drew ?_))); (case side2 => exact (Kd.S_reads' HO269.out).2.1); rintro e w25 ⟨v292, rfl, ho0, hb⟩; refine ⟨_, rfl, ?_⟩; have n0_ := Aside0.mk (Kd.S_elder' (by (with_reducible repeat (first | apply Kd.S_alloc | apply Kd.S_drewN | apply Kd.S_drew)); exact HO269.out) (Kd.R_base ho0) hb); have n1_ := Aside0.mk (Kd.S_elder' (by (with_reducible repeat (first | apply Kd.S_alloc | apply Kd.S_drewN | apply Kd.S_drew)); exact HO273.out) (Kd.R_base ho0) hb); have n2_ := Aside0.mk (Kd.S_elder' (by (with_reducible repeat (first | apply Kd.S_alloc | apply Kd.S_drewN | apply Kd.S_drew)); exact HO277.out) (Kd.R_base ho0) hb); have n3_ := Aside0.mk (Kd.R_elder' (by (with_reducible repeat (first | apply Kd.R_alloc | apply Kd.R_drewN | apply Kd.R_drew)); exact HO281.out) (Kd.R_base ho0) hb); have n4_ := Aside0.mk (Kd.R_elder' (by (with_reducible repeat (first | apply Kd.R_alloc | apply Kd.R_drewN | apply Kd.R_drew)); exact HO285.out) (Kd.R_base ho0) hb); have n5_ := Aside0.mk (Kd.R_elder' (by (with_reducible repeat (first | apply Kd.R_alloc | apply Kd.R_drewN | apply Kd.R_drew)); exact HO289.out) (Kd.R_base ho0) hb); have n6_ := Aside0.mk (Kd.R_lower (Kd.R_new' (Kd.R_new' (Kd.R_new' ho0 (Kd.R_lt (by (with_reducible repeat (first | apply Kd.R_alloc | apply Kd.R_drewN | apply Kd.R_drew)); exact HO281.out))) (Kd.R_lt (by (with_reducible repeat (first | apply Kd.R_alloc | apply Kd.R_drewN | apply Kd.R_drew)); exact HO285.out))) (Kd.R_lt (by (with_reducible repeat (first | apply Kd.R_alloc | apply Kd.R_drewN | apply Kd.R_drew)); exact HO289.out))) (below_size (by repeat (first | (with_reducible first | exact HB.out | apply below_alloc | apply pw_below_drewN | apply below_drew1) | exact HB.out)))); have n7_ := Aside0.mk (below_step (by repeat (first | (with_reducible first | exact HB.out | apply below_alloc | apply pw_below_drewN | apply below_drew1) | exact HB.out)) hb); clear HO269; clear HO273; clear HO277; clear HO281; clear HO285; clear HO289; clear HB; have HO269 := n0_; have HO273 := n1_; have HO277 := n2_; have HO281 := n3_; have HO285 := n4_; have HO289 := n5_; have HO293 := n6_; have HB := n7_; clear n0_ n1_ n2_ n3_ n4_ n5_ n6_ n7_; (try clear hb); (try clear hb2); (try clear hk); (try clear hi); (try clear ho0)) | ((with_reducible refine gate_callee (f := 25) rfl ?_); refine goesL_ (some 85) rfl rfl Try.func25 (by kernel_rfl) rfl #[.int .i64 t266, .slice Ao19 t267.length co19] rfl (by (try simp only [List.map_toArray, List.map_cons, List.map_nil]); first | done | rfl | (simp only [List.length_drop, List.length_take]; rfl)) ?_; (with_reducible refine (impl_SpreadOf.calls kj2 t266 _ _ t267 t294 t295 _ ?side1 ?side2 A15.out).mono ?_); (case side1 => repeat (first | exact (Kd.S_reads' HO269.out).2.2 | (with_reducible refine Kd.C_alloc ?_ _) | (with_reducible refine Kd.C_drewN ?_ _) | (with_reducible refine Kd.C_drew ?_))); (case side2 => exact (Kd.S_reads' HO269.out).2.1); rintro e w26 ⟨rfl, hb⟩; refine ⟨_, rfl, ?_⟩; have n0_ := Aside0.mk (Kd.S_below (by (with_reducible repeat (first | apply Kd.S_alloc | apply Kd.S_drewN | apply Kd.S_drew)); exact HO269.out) hb); have n1_ := Aside0.mk (Kd.S_below (by (with_reducible repeat (first | apply Kd.S_alloc | apply Kd.S_drewN | apply Kd.S_drew)); exact HO273.out) hb); have n2_ := Aside0.mk (Kd.S_below (by (with_reducible repeat (first | apply Kd.S_alloc | apply Kd.S_drewN | apply Kd.S_drew)); exact HO277.out) hb); have n3_ := Aside0.mk (Kd.R_below (by (with_reducible repeat (first | apply Kd.R_alloc | apply Kd.R_drewN | apply Kd.R_drew)); exact HO281.out) hb); have n4_ := Aside0.mk (Kd.R_below (by (with_reducible repeat (first | apply Kd.R_alloc | apply Kd.R_drewN | apply Kd.R_drew)); exact HO285.out) hb); have n5_ := Aside0.mk (Kd.R_below (by (with_reducible repeat (first | apply Kd.R_alloc | apply Kd.R_drewN | apply Kd.R_drew)); exact HO289.out) hb); have n6_ := Aside0.mk (Kd.R_below (by (with_reducible repeat (first | apply Kd.R_alloc | apply Kd.R_drewN | apply Kd.R_drew)); exact HO293.out) hb); have n7_ := Aside0.mk (below_step (by repeat (first | (with_reducible first | exact HB.out | apply below_alloc | apply pw_below_drewN | apply below_drew1) | exact HB.out)) hb); clear HO269; clear HO273; clear HO277; clear HO281; clear HO285; clear HO289; clear HO293; clear HB; have HO269 := n0_; have HO273 := n1_; have HO277 := n2_; have HO281 := n3_; have HO285 := n4_; have HO289 := n5_; have HO293 := n6_; have HB := n7_; clear n0_ n1_ n2_ n3_ n4_ n5_ n6_ n7_; (try clear hb); (try clear hb2); (try clear hk); (try clear hi)) | ((with_reducible refine gate_callee (f := 26) rfl ?_); refine goesL_ (some 91) rfl rfl Try.func26 (by kernel_rfl) rfl #[.int .i64 t266, .slice Ao19 t267.length co19] rfl (by (try simp only [List.map_toArray, List.map_cons, List.map_nil]); first | done | rfl | (simp only [List.length_drop, List.length_take]; rfl)) ?_; (with_reducible refine (spec_SpreadOf.calls kj2 t266 _ _ t267 t296 t297 _ ?side1 ?side2 A16.out).mono ?_); (case side1 => repeat (first | exact (Kd.S_reads' HO269.out).2.2 | (with_reducible refine Kd.C_alloc ?_ _) | (with_reducible refine Kd.C_drewN ?_ _) | (with_reducible refine Kd.C_drew ?_))); (case side2 => exact (Kd.S_reads' HO269.out).2.1); rintro e w27 ⟨rfl, hb⟩; refine ⟨_, rfl, ?_⟩; have n0_ := Aside0.mk (Kd.S_below (by (with_reducible repeat (first | apply Kd.S_alloc | apply Kd.S_drewN | apply Kd.S_drew)); exact HO269.out) hb); have n1_ := Aside0.mk (Kd.S_below (by (with_reducible repeat (first | apply Kd.S_alloc | apply Kd.S_drewN | apply Kd.S_drew)); exact HO273.out) hb); have n2_ := Aside0.mk (Kd.S_below (by (with_reducible repeat (first | apply Kd.S_alloc | apply Kd.S_drewN | apply Kd.S_drew)); exact HO277.out) hb); have n3_ := Aside0.mk (Kd.R_below (by (with_reducible repeat (first | apply Kd.R_alloc | apply Kd.R_drewN | apply Kd.R_drew)); exact HO281.out) hb); have n4_ := Aside0.mk (Kd.R_below (by (with_reducible repeat (first | apply Kd.R_alloc | apply Kd.R_drewN | apply Kd.R_drew)); exact HO285.out) hb); have n5_ := Aside0.mk (Kd.R_below (by (with_reducible repeat (first | apply Kd.R_alloc | apply Kd.R_drewN | apply Kd.R_drew)); exact HO289.out) hb); have n6_ := Aside0.mk (Kd.R_below (by (with_reducible repeat (first | apply Kd.R_alloc | apply Kd.R_drewN | apply Kd.R_drew)); exact HO293.out) hb); have n7_ := Aside0.mk (below_step (by repeat (first | (with_reducible first | exact HB.out | apply below_alloc | apply pw_below_drewN | apply below_drew1) | exact HB.out)) hb); clear HO269; clear HO273; clear HO277; clear HO281; clear HO285; clear HO289; clear HO293; clear HB; have HO269 := n0_; have HO273 := n1_; have HO277 := n2_; have HO281 := n3_; have HO285 := n4_; have HO289 := n5_; have HO293 := n6_; have HB := n7_; clear n0_ n1_ n2_ n3_ n4_ n5_ n6_ n7_; (try clear hb); (try clear hb2); (try clear hk); (try clear hi)))
    (try simp only [Act.put, List.setIfInBounds_toArray, List.set_cons_zero, List.set_cons_succ])
    go_cut [173] (fun v173 wc => ∃ (kq : Nat) (x173_16 : Bool), v173 = .bool x173_16 ∧ Aside0 (laws_FnRanks.j1 kq t266 t267 t274 t282 t290 t296 x173_16 = some r) ∧ Aside0 (kq ≤ kj2) ∧ Aside0 (Kd.S (Kd.slice 2 (Kd.int .i64)) 22 wc w.heap.size (fun k_ => some k_ ≠ (v276 : Value).ownBlock ∧ some k_ ≠ (v284 : Value).ownBlock ∧ some k_ ≠ (v292 : Value).ownBlock) (.slice Ao19 t267.length co19) t267) ∧ Aside0 (Kd.S (Kd.slice 2 (Kd.int .i64)) 22 wc w.heap.size (fun k_ => some k_ ≠ ((.slice Ao19 t267.length co19) : Value).ownBlock ∧ some k_ ≠ (v284 : Value).ownBlock ∧ some k_ ≠ (v292 : Value).ownBlock) v276 t274) ∧ Aside0 (Kd.R (Kd.int .i64) 2 wc w.heap.size (fun k_ => some k_ ≠ (v292 : Value).ownBlock) v284 t282) ∧ Aside0 (Kd.R (Kd.int .i64) 2 wc w.heap.size (fun k_ => some k_ ≠ (v284 : Value).ownBlock) v292 t290) ∧ Aside0 (Below w.heap.size w wc))
    case first => as_aux_lemma =>
     have H := HC17.out
     clear HC17
     by_cases c28 : t271 = t275
     ·
      rw [if_pos c28] at H
      have c28b0 : (t271 == t275) = true := beq_iff_eq.mpr c28
      have c28b1 : (t271 != t275) = false := bne_eq_false_iff_eq.mpr c28
      clear c28
      (first | rw [c28b0] | (simp only [i64_w, i32_w]; rw [c28b0]) | skip)
      by_cases c29 : t271 = 0
      ·
       rw [if_pos c29] at H
       have c29b0 : (t271 == 0) = true := beq_iff_eq.mpr c29
       have c29b1 : (t271 != 0) = false := bne_eq_false_iff_eq.mpr c29
       clear c29
       replace H := Option.bind_eq_some_iff.mp H
       obtain ⟨t298, A300, H⟩ := H
       replace H : (if t298 = true then (if (t274.length : Int) = (t267.length : Int) then (if t279 = t283 then (if t279 = 0 then ((spec_SameNumbers.f kj2 t278 t282).bind fun t299 => (if t299 = true then (if (t282.length : Int) = t266 then (if t287 = t291 then (if t287 = 0 then ((spec_SameNumbers.f kj2 t286 t290).bind fun t300 => (if t300 = true then ((impl_IsOrder.f t266 t290).bind fun t301 => (if t301 = true then (if t295 = t297 then (if t295 = 0 then (if t294 = t296 then (laws_FnRanks.j1 kj2 t266 t267 t274 t282 t290 t296 (decide (t296 < 0))) else (laws_FnRanks.j1 kj2 t266 t267 t274 t282 t290 t296 true)) else (laws_FnRanks.j1 kj2 t266 t267 t274 t282 t290 t296 true)) else (laws_FnRanks.j1 kj2 t266 t267 t274 t282 t290 t296 true)) else (laws_FnRanks.j1 kj2 t266 t267 t274 t282 t290 t296 true))) else (laws_FnRanks.j1 kj2 t266 t267 t274 t282 t290 t296 true))) else (laws_FnRanks.j1 kj2 t266 t267 t274 t282 t290 t296 true)) else (laws_FnRanks.j1 kj2 t266 t267 t274 t282 t290 t296 true)) else (laws_FnRanks.j1 kj2 t266 t267 t274 t282 t290 t296 true)) else (laws_FnRanks.j1 kj2 t266 t267 t274 t282 t290 t296 true))) else (laws_FnRanks.j1 kj2 t266 t267 t274 t282 t290 t296 true)) else (laws_FnRanks.j1 kj2 t266 t267 t274 t282 t290 t296 true)) else (laws_FnRanks.j1 kj2 t266 t267 t274 t282 t290 t296 true)) else (laws_FnRanks.j1 kj2 t266 t267 t274 t282 t290 t296 true)) = some r := H
       have A30 := Aside0.mk A300
       clear A300
       by_cases c31 : t298 = true
       ·
        subst c31
        have H1 : (if (t274.length : Int) = (t267.length : Int) then (if t279 = t283 then (if t279 = 0 then ((spec_SameNumbers.f kj2 t278 t282).bind fun t299 => (if t299 = true then (if (t282.length : Int) = t266 then (if t287 = t291 then (if t287 = 0 then ((spec_SameNumbers.f kj2 t286 t290).bind fun t300 => (if t300 = true then ((impl_IsOrder.f t266 t290).bind fun t301 => (if t301 = true then (if t295 = t297 then (if t295 = 0 then (if t294 = t296 then (laws_FnRanks.j1 kj2 t266 t267 t274 t282 t290 t296 (decide (t296 < 0))) else (laws_FnRanks.j1 kj2 t266 t267 t274 t282 t290 t296 true)) else (laws_FnRanks.j1 kj2 t266 t267 t274 t282 t290 t296 true)) else (laws_FnRanks.j1 kj2 t266 t267 t274 t282 t290 t296 true)) else (laws_FnRanks.j1 kj2 t266 t267 t274 t282 t290 t296 true))) else (laws_FnRanks.j1 kj2 t266 t267 t274 t282 t290 t296 true))) else (laws_FnRanks.j1 kj2 t266 t267 t274 t282 t290 t296 true)) else (laws_FnRanks.j1 kj2 t266 t267 t274 t282 t290 t296 true)) else (laws_FnRanks.j1 kj2 t266 t267 t274 t282 t290 t296 true)) else (laws_FnRanks.j1 kj2 t266 t267 t274 t282 t290 t296 true))) else (laws_FnRanks.j1 kj2 t266 t267 t274 t282 t290 t296 true)) else (laws_FnRanks.j1 kj2 t266 t267 t274 t282 t290 t296 true)) else (laws_FnRanks.j1 kj2 t266 t267 t274 t282 t290 t296 true)) = some r := by rw [if_pos rfl] at H; exact H
        clear H
        have H := H1
        clear H1
        by_cases c32 : (t274.length : Int) = (t267.length : Int)
        ·
         rw [if_pos c32] at H
         have c32b0 : ((t274.length : Int) == (t267.length : Int)) = true := beq_iff_eq.mpr c32
         have c32b1 : ((t274.length : Int) != (t267.length : Int)) = false := bne_eq_false_iff_eq.mpr c32
         have c32b2 : (t274.length == t267.length) = true := by first | simpa using c32 | (simp at c32 ⊢; omega)
         clear c32
         by_cases c33 : t279 = t283
         ·
          rw [if_pos c33] at H
          have c33b0 : (t279 == t283) = true := beq_iff_eq.mpr c33
          have c33b1 : (t279 != t283) = false := bne_eq_false_iff_eq.mpr c33
          clear c33
          by_cases c34 : t279 = 0
          ·
           rw [if_pos c34] at H
           have c34b0 : (t279 == 0) = true := beq_iff_eq.mpr c34
           have c34b1 : (t279 != 0) = false := bne_eq_false_iff_eq.mpr c34
           clear c34
           replace H := Option.bind_eq_some_iff.mp H
           obtain ⟨t299, A350, H⟩ := H
           replace H : (if t299 = true then (if (t282.length : Int) = t266 then (if t287 = t291 then (if t287 = 0 then ((spec_SameNumbers.f kj2 t286 t290).bind fun t300 => (if t300 = true then ((impl_IsOrder.f t266 t290).bind fun t301 => (if t301 = true then (if t295 = t297 then (if t295 = 0 then (if t294 = t296 then (laws_FnRanks.j1 kj2 t266 t267 t274 t282 t290 t296 (decide (t296 < 0))) else (laws_FnRanks.j1 kj2 t266 t267 t274 t282 t290 t296 true)) else (laws_FnRanks.j1 kj2 t266 t267 t274 t282 t290 t296 true)) else (laws_FnRanks.j1 kj2 t266 t267 t274 t282 t290 t296 true)) else (laws_FnRanks.j1 kj2 t266 t267 t274 t282 t290 t296 true))) else (laws_FnRanks.j1 kj2 t266 t267 t274 t282 t290 t296 true))) else (laws_FnRanks.j1 kj2 t266 t267 t274 t282 t290 t296 true)) else (laws_FnRanks.j1 kj2 t266 t267 t274 t282 t290 t296 true)) else (laws_FnRanks.j1 kj2 t266 t267 t274 t282 t290 t296 true)) else (laws_FnRanks.j1 kj2 t266 t267 t274 t282 t290 t296 true)) = some r := H
           have A35 := Aside0.mk A350
           clear A350
           by_cases c36 : t299 = true
           ·
            subst c36
            have H1 : (if (t282.length : Int) = t266 then (if t287 = t291 then (if t287 = 0 then ((spec_SameNumbers.f kj2 t286 t290).bind fun t300 => (if t300 = true then ((impl_IsOrder.f t266 t290).bind fun t301 => (if t301 = true then (if t295 = t297 then (if t295 = 0 then (if t294 = t296 then (laws_FnRanks.j1 kj2 t266 t267 t274 t282 t290 t296 (decide (t296 < 0))) else (laws_FnRanks.j1 kj2 t266 t267 t274 t282 t290 t296 true)) else (laws_FnRanks.j1 kj2 t266 t267 t274 t282 t290 t296 true)) else (laws_FnRanks.j1 kj2 t266 t267 t274 t282 t290 t296 true)) else (laws_FnRanks.j1 kj2 t266 t267 t274 t282 t290 t296 true))) else (laws_FnRanks.j1 kj2 t266 t267 t274 t282 t290 t296 true))) else (laws_FnRanks.j1 kj2 t266 t267 t274 t282 t290 t296 true)) else (laws_FnRanks.j1 kj2 t266 t267 t274 t282 t290 t296 true)) else (laws_FnRanks.j1 kj2 t266 t267 t274 t282 t290 t296 true)) = some r := by rw [if_pos rfl] at H; exact H
            clear H
            have H := H1
            clear H1
            by_cases c37 : (t282.length : Int) = t266
            ·
             rw [if_pos c37] at H
             have c37b0 : ((t282.length : Int) == t266) = true := beq_iff_eq.mpr c37
             have c37b1 : ((t282.length : Int) != t266) = false := bne_eq_false_iff_eq.mpr c37
             clear c37
             by_cases c38 : t287 = t291
             ·
              rw [if_pos c38] at H
              have c38b0 : (t287 == t291) = true := beq_iff_eq.mpr c38
              have c38b1 : (t287 != t291) = false := bne_eq_false_iff_eq.mpr c38
              clear c38
              by_cases c39 : t287 = 0
              ·
               rw [if_pos c39] at H
               have c39b0 : (t287 == 0) = true := beq_iff_eq.mpr c39
               have c39b1 : (t287 != 0) = false := bne_eq_false_iff_eq.mpr c39
               clear c39
               replace H := Option.bind_eq_some_iff.mp H
               obtain ⟨t300, A400, H⟩ := H
               replace H : (if t300 = true then ((impl_IsOrder.f t266 t290).bind fun t301 => (if t301 = true then (if t295 = t297 then (if t295 = 0 then (if t294 = t296 then (laws_FnRanks.j1 kj2 t266 t267 t274 t282 t290 t296 (decide (t296 < 0))) else (laws_FnRanks.j1 kj2 t266 t267 t274 t282 t290 t296 true)) else (laws_FnRanks.j1 kj2 t266 t267 t274 t282 t290 t296 true)) else (laws_FnRanks.j1 kj2 t266 t267 t274 t282 t290 t296 true)) else (laws_FnRanks.j1 kj2 t266 t267 t274 t282 t290 t296 true))) else (laws_FnRanks.j1 kj2 t266 t267 t274 t282 t290 t296 true)) = some r := H
               have A40 := Aside0.mk A400
               clear A400
               by_cases c41 : t300 = true
               ·
                subst c41
                have H1 : ((impl_IsOrder.f t266 t290).bind fun t301 => (if t301 = true then (if t295 = t297 then (if t295 = 0 then (if t294 = t296 then (laws_FnRanks.j1 kj2 t266 t267 t274 t282 t290 t296 (decide (t296 < 0))) else (laws_FnRanks.j1 kj2 t266 t267 t274 t282 t290 t296 true)) else (laws_FnRanks.j1 kj2 t266 t267 t274 t282 t290 t296 true)) else (laws_FnRanks.j1 kj2 t266 t267 t274 t282 t290 t296 true)) else (laws_FnRanks.j1 kj2 t266 t267 t274 t282 t290 t296 true))) = some r := by rw [if_pos rfl] at H; exact H
                clear H
                have H := H1
                clear H1
                replace H := Option.bind_eq_some_iff.mp H
                obtain ⟨t301, A420, H⟩ := H
                replace H : (if t301 = true then (if t295 = t297 then (if t295 = 0 then (if t294 = t296 then (laws_FnRanks.j1 kj2 t266 t267 t274 t282 t290 t296 (decide (t296 < 0))) else (laws_FnRanks.j1 kj2 t266 t267 t274 t282 t290 t296 true)) else (laws_FnRanks.j1 kj2 t266 t267 t274 t282 t290 t296 true)) else (laws_FnRanks.j1 kj2 t266 t267 t274 t282 t290 t296 true)) else (laws_FnRanks.j1 kj2 t266 t267 t274 t282 t290 t296 true)) = some r := H
                have A42 := Aside0.mk A420
                clear A420
                by_cases c43 : t301 = true
                ·
                 subst c43
                 have H1 : (if t295 = t297 then (if t295 = 0 then (if t294 = t296 then (laws_FnRanks.j1 kj2 t266 t267 t274 t282 t290 t296 (decide (t296 < 0))) else (laws_FnRanks.j1 kj2 t266 t267 t274 t282 t290 t296 true)) else (laws_FnRanks.j1 kj2 t266 t267 t274 t282 t290 t296 true)) else (laws_FnRanks.j1 kj2 t266 t267 t274 t282 t290 t296 true)) = some r := by rw [if_pos rfl] at H; exact H
                 clear H
                 have H := H1
                 clear H1
                 by_cases c44 : t295 = t297
                 ·
                  rw [if_pos c44] at H
                  have c44b0 : (t295 == t297) = true := beq_iff_eq.mpr c44
                  have c44b1 : (t295 != t297) = false := bne_eq_false_iff_eq.mpr c44
                  clear c44
                  by_cases c45 : t295 = 0
                  ·
                   rw [if_pos c45] at H
                   have c45b0 : (t295 == 0) = true := beq_iff_eq.mpr c45
                   have c45b1 : (t295 != 0) = false := bne_eq_false_iff_eq.mpr c45
                   clear c45
                   by_cases c46 : t294 = t296
                   ·
                    rw [if_pos c46] at H
                    have c46b0 : (t294 == t296) = true := beq_iff_eq.mpr c46
                    have c46b1 : (t294 != t296) = false := bne_eq_false_iff_eq.mpr c46
                    clear c46
                    have H' := Aside0.mk H
                    clear H
                    obtain ⟨Ao47, co47, eo47⟩ := Kd.S_slice HO273.out
                    subst eo47
                    obtain ⟨Ao48, co48, eo48⟩ := Kd.S_slice HO277.out
                    subst eo48
                    go_wp2_with (first | (go_at_call 27; (with_reducible refine (spec_SameTables.calls kj2 _ _ t270 _ _ t274 true _ ?side1 ?side2 ?side3 ?side4 A30.out).mono ?_); (case side1 => repeat (first | exact (Kd.S_reads' HO273.out).2.2 | (with_reducible refine Kd.C_alloc ?_ _) | (with_reducible refine Kd.C_drewN ?_ _) | (with_reducible refine Kd.C_drew ?_))); (case side2 => exact (Kd.S_reads' HO273.out).2.1); (case side3 => repeat (first | exact (Kd.S_reads' HO277.out).2.2 | (with_reducible refine Kd.C_alloc ?_ _) | (with_reducible refine Kd.C_drewN ?_ _) | (with_reducible refine Kd.C_drew ?_))); (case side4 => exact (Kd.S_reads' HO277.out).2.1); rintro e w' ⟨rfl, ⟨nd, rfl⟩⟩; obtain ⟨Ao49, co49, eo49⟩ := Kd.R_slice HO281.out; subst eo49; obtain ⟨Ao50, co50, eo50⟩ := Kd.R_slice HO285.out; subst eo50) | (go_at_call 28; (with_reducible refine (spec_SameNumbers.calls kj2 _ _ t278 _ _ t282 true _ ?side1 ?side2 ?side3 ?side4 A35.out).mono ?_); (case side1 => repeat (first | exact (Kd.R_reads' HO281.out).2.2 | (with_reducible refine Kd.C_alloc ?_ _) | (with_reducible refine Kd.C_drewN ?_ _) | (with_reducible refine Kd.C_drew ?_))); (case side2 => exact (Kd.R_reads' HO281.out).2.1); (case side3 => repeat (first | exact (Kd.R_reads' HO285.out).2.2 | (with_reducible refine Kd.C_alloc ?_ _) | (with_reducible refine Kd.C_drewN ?_ _) | (with_reducible refine Kd.C_drew ?_))); (case side4 => exact (Kd.R_reads' HO285.out).2.1); rintro e w' ⟨rfl, ⟨nd, rfl⟩⟩; obtain ⟨Ao51, co51, eo51⟩ := Kd.R_slice HO289.out; subst eo51; obtain ⟨Ao52, co52, eo52⟩ := Kd.R_slice HO293.out; subst eo52) | (go_at_call 28; (with_reducible refine (spec_SameNumbers.calls kj2 _ _ t286 _ _ t290 true _ ?side1 ?side2 ?side3 ?side4 A40.out).mono ?_); (case side1 => repeat (first | exact (Kd.R_reads' HO289.out).2.2 | (with_reducible refine Kd.C_alloc ?_ _) | (with_reducible refine Kd.C_drewN ?_ _) | (with_reducible refine Kd.C_drew ?_))); (case side2 => exact (Kd.R_reads' HO289.out).2.1); (case side3 => repeat (first | exact (Kd.R_reads' HO293.out).2.2 | (with_reducible refine Kd.C_alloc ?_ _) | (with_reducible refine Kd.C_drewN ?_ _) | (with_reducible refine Kd.C_drew ?_))); (case side4 => exact (Kd.R_reads' HO293.out).2.1); rintro e w' ⟨rfl, ⟨nd, rfl⟩⟩) | (go_at_call 29; (with_reducible refine (impl_IsOrder.calls t266 _ _ t290 true _ ?side1 ?side2 A42.out).mono ?_); (case side1 => repeat (first | exact (Kd.R_reads' HO293.out).2.2 | (with_reducible refine Kd.C_alloc ?_ _) | (with_reducible refine Kd.C_drewN ?_ _) | (with_reducible refine Kd.C_drew ?_))); (case side2 => exact (Kd.R_reads' HO293.out).2.1); rintro e w53 ⟨rfl, hb⟩; have n0_ := Aside0.mk (Kd.S_below (by (with_reducible repeat (first | apply Kd.S_alloc | apply Kd.S_drewN | apply Kd.S_drew)); exact HO269.out) hb); have n1_ := Aside0.mk (Kd.S_below (by (with_reducible repeat (first | apply Kd.S_alloc | apply Kd.S_drewN | apply Kd.S_drew)); exact HO273.out) hb); have n2_ := Aside0.mk (Kd.S_below (by (with_reducible repeat (first | apply Kd.S_alloc | apply Kd.S_drewN | apply Kd.S_drew)); exact HO277.out) hb); have n3_ := Aside0.mk (Kd.R_below (by (with_reducible repeat (first | apply Kd.R_alloc | apply Kd.R_drewN | apply Kd.R_drew)); exact HO281.out) hb); have n4_ := Aside0.mk (Kd.R_below (by (with_reducible repeat (first | apply Kd.R_alloc | apply Kd.R_drewN | apply Kd.R_drew)); exact HO285.out) hb); have n5_ := Aside0.mk (Kd.R_below (by (with_reducible repeat (first | apply Kd.R_alloc | apply Kd.R_drewN | apply Kd.R_drew)); exact HO289.out) hb); have n6_ := Aside0.mk (Kd.R_below (by (with_reducible repeat (first | apply Kd.R_alloc | apply Kd.R_drewN | apply Kd.R_drew)); exact HO293.out) hb); have n7_ := Aside0.mk (below_step (by repeat (first | (with_reducible first | exact HB.out | apply below_alloc | apply pw_below_drewN | apply below_drew1) | exact HB.out)) hb); clear HO269; clear HO273; clear HO277; clear HO281; clear HO285; clear HO289; clear HO293; clear HB; have HO269 := n0_; have HO273 := n1_; have HO277 := n2_; have HO281 := n3_; have HO285 := n4_; have HO289 := n5_; have HO293 := n6_; have HB := n7_; clear n0_ n1_ n2_ n3_ n4_ n5_ n6_ n7_; (try clear hb); (try clear hb2); (try clear hk); (try clear hi)))
                    go_meet
                    case rel => exact ⟨_, (decide (t296 < 0)), (by first | rfl | (simp; done) | (simp [*]; done)), H', ⟨by have := HJ2.out; first | omega | exact Nat.le_refl _⟩, ⟨by (with_reducible repeat (first | apply Kd.S_alloc | apply Kd.S_drewN | apply Kd.S_drew)); exact Kd.S_mono HO269.out (fun _ hk => ⟨hk.1.1.1.1.2, ⟨hk.1.1.2, hk.2⟩⟩)⟩, ⟨by (with_reducible repeat (first | apply Kd.S_alloc | apply Kd.S_drewN | apply Kd.S_drew)); exact Kd.S_mono HO277.out (fun _ hk => ⟨hk.1.1.1.1.1.2, ⟨hk.1.1.2, hk.2⟩⟩)⟩, ⟨by (with_reducible repeat (first | apply Kd.R_alloc | apply Kd.R_drewN | apply Kd.R_drew)); exact Kd.R_mono HO285.out (fun _ hk => hk.2)⟩, ⟨by (with_reducible repeat (first | apply Kd.R_alloc | apply Kd.R_drewN | apply Kd.R_drew)); exact Kd.R_mono HO293.out (fun _ hk => hk.1.2)⟩, ⟨by repeat (first | (with_reducible first | exact HB.out | apply below_alloc | apply pw_below_drewN | apply below_drew1) | exact HB.out)⟩⟩
                   ·
                    rw [if_neg c46] at H
                    have c46b0 : (t294 == t296) = false := beq_eq_false_iff_ne.mpr c46
                    have c46b1 : (t294 != t296) = true := bne_iff_ne.mpr c46
                    exact absurd (H.trans (congrArg some HT.out)) (laws_FnRanks.dead_j1 _ _ _ _ _ _ _)
                  ·
                   rw [if_neg c45] at H
                   have c45b0 : (t295 == 0) = false := beq_eq_false_iff_ne.mpr c45
                   have c45b1 : (t295 != 0) = true := bne_iff_ne.mpr c45
                   exact absurd (H.trans (congrArg some HT.out)) (laws_FnRanks.dead_j1 _ _ _ _ _ _ _)
                 ·
                  rw [if_neg c44] at H
                  have c44b0 : (t295 == t297) = false := beq_eq_false_iff_ne.mpr c44
                  have c44b1 : (t295 != t297) = true := bne_iff_ne.mpr c44
                  exact absurd (H.trans (congrArg some HT.out)) (laws_FnRanks.dead_j1 _ _ _ _ _ _ _)
                ·
                 replace c43 := Bool.eq_false_iff.mpr c43
                 subst c43
                 have H1 : (laws_FnRanks.j1 kj2 t266 t267 t274 t282 t290 t296 true) = some r := by rw [if_neg (show ¬ (false = true) by decide)] at H; exact H
                 clear H
                 have H := H1
                 clear H1
                 exact absurd (H.trans (congrArg some HT.out)) (laws_FnRanks.dead_j1 _ _ _ _ _ _ _)
               ·
                replace c41 := Bool.eq_false_iff.mpr c41
                subst c41
                have H1 : (laws_FnRanks.j1 kj2 t266 t267 t274 t282 t290 t296 true) = some r := by rw [if_neg (show ¬ (false = true) by decide)] at H; exact H
                clear H
                have H := H1
                clear H1
                exact absurd (H.trans (congrArg some HT.out)) (laws_FnRanks.dead_j1 _ _ _ _ _ _ _)
              ·
               rw [if_neg c39] at H
               have c39b0 : (t287 == 0) = false := beq_eq_false_iff_ne.mpr c39
               have c39b1 : (t287 != 0) = true := bne_iff_ne.mpr c39
               exact absurd (H.trans (congrArg some HT.out)) (laws_FnRanks.dead_j1 _ _ _ _ _ _ _)
             ·
              rw [if_neg c38] at H
              have c38b0 : (t287 == t291) = false := beq_eq_false_iff_ne.mpr c38
              have c38b1 : (t287 != t291) = true := bne_iff_ne.mpr c38
              exact absurd (H.trans (congrArg some HT.out)) (laws_FnRanks.dead_j1 _ _ _ _ _ _ _)
            ·
             rw [if_neg c37] at H
             have c37b0 : ((t282.length : Int) == t266) = false := beq_eq_false_iff_ne.mpr c37
             have c37b1 : ((t282.length : Int) != t266) = true := bne_iff_ne.mpr c37
             exact absurd (H.trans (congrArg some HT.out)) (laws_FnRanks.dead_j1 _ _ _ _ _ _ _)
           ·
            replace c36 := Bool.eq_false_iff.mpr c36
            subst c36
            have H1 : (laws_FnRanks.j1 kj2 t266 t267 t274 t282 t290 t296 true) = some r := by rw [if_neg (show ¬ (false = true) by decide)] at H; exact H
            clear H
            have H := H1
            clear H1
            exact absurd (H.trans (congrArg some HT.out)) (laws_FnRanks.dead_j1 _ _ _ _ _ _ _)
          ·
           rw [if_neg c34] at H
           have c34b0 : (t279 == 0) = false := beq_eq_false_iff_ne.mpr c34
           have c34b1 : (t279 != 0) = true := bne_iff_ne.mpr c34
           exact absurd (H.trans (congrArg some HT.out)) (laws_FnRanks.dead_j1 _ _ _ _ _ _ _)
         ·
          rw [if_neg c33] at H
          have c33b0 : (t279 == t283) = false := beq_eq_false_iff_ne.mpr c33
          have c33b1 : (t279 != t283) = true := bne_iff_ne.mpr c33
          exact absurd (H.trans (congrArg some HT.out)) (laws_FnRanks.dead_j1 _ _ _ _ _ _ _)
        ·
         rw [if_neg c32] at H
         have c32b0 : ((t274.length : Int) == (t267.length : Int)) = false := beq_eq_false_iff_ne.mpr c32
         have c32b1 : ((t274.length : Int) != (t267.length : Int)) = true := bne_iff_ne.mpr c32
         have c32b2 : (t274.length == t267.length) = false := by first | simpa using c32 | (simp at c32 ⊢; omega)
         exact absurd (H.trans (congrArg some HT.out)) (laws_FnRanks.dead_j1 _ _ _ _ _ _ _)
       ·
        replace c31 := Bool.eq_false_iff.mpr c31
        subst c31
        have H1 : (laws_FnRanks.j1 kj2 t266 t267 t274 t282 t290 t296 true) = some r := by rw [if_neg (show ¬ (false = true) by decide)] at H; exact H
        clear H
        have H := H1
        clear H1
        exact absurd (H.trans (congrArg some HT.out)) (laws_FnRanks.dead_j1 _ _ _ _ _ _ _)
      ·
       rw [if_neg c29] at H
       have c29b0 : (t271 == 0) = false := beq_eq_false_iff_ne.mpr c29
       have c29b1 : (t271 != 0) = true := bne_iff_ne.mpr c29
       exact absurd (H.trans (congrArg some HT.out)) (laws_FnRanks.dead_j1 _ _ _ _ _ _ _)
     ·
      rw [if_neg c28] at H
      have c28b0 : (t271 == t275) = false := beq_eq_false_iff_ne.mpr c28
      have c28b1 : (t271 != t275) = true := bne_iff_ne.mpr c28
      (first | rw [c28b0] | (simp only [i64_w, i32_w]; rw [c28b0]) | skip)
      exact absurd (H.trans (congrArg some HT.out)) (laws_FnRanks.dead_j1 _ _ _ _ _ _ _)
    case rest => as_aux_lemma =>
     clear HC17
     try clear c1
     try clear c2
     try clear p2
     try clear c3
     try clear c4
     try clear c5
     try clear c7
     try clear c17
     try clear c18
     try clear c19
     try clear c20
     try clear c21
     try clear c22
     try clear c23
     try clear c24
     try clear c25
     try clear c26
     try clear c28
     try clear c28b0
     try clear c28b1
     try clear c29
     try clear c29b0
     try clear c29b1
     try clear c31
     try clear c32
     try clear c32b0
     try clear c32b1
     try clear c32b2
     try clear c33
     try clear c33b0
     try clear c33b1
     try clear c34
     try clear c34b0
     try clear c34b1
     try clear c36
     try clear c37
     try clear c37b0
     try clear c37b1
     try clear c38
     try clear c38b0
     try clear c38b1
     try clear c39
     try clear c39b0
     try clear c39b1
     try clear c41
     try clear c43
     try clear c44
     try clear c44b0
     try clear c44b1
     try clear c45
     try clear c45b0
     try clear c45b1
     try clear c46
     try clear c46b0
     try clear c46b1
     try clear p2
     obtain ⟨kq, x173_16, rfl, HA, HJ16, HO_6, HO_9, HO_13, HO_17, HB⟩ := hcut
     cases kq with
     | zero => exact absurd HA.out (by simp [laws_FnRanks.j1])
     | succ kj16 =>
      have H := HA.out
      clear HA
      simp only [laws_FnRanks.j1] at H
      by_cases c112 : x173_16 = true
      ·
       subst c112
       have H1 : (some false) = some r := by rw [if_pos rfl] at H; exact H
       clear H
       have H := H1
       clear H1
       exact absurd (Option.some.inj (H.trans (congrArg some HT.out))) Bool.false_ne_true
      ·
       replace c112 := Bool.eq_false_iff.mpr c112
       subst c112
       have H1 : (if 0 ≤ t266 then (if (t266 : Int).toNat ≤ 35184372088832 then (laws_FnRanks.l0 kj16 t266 t267 t274 t282 t290 t296 (List.replicate (t266 : Int).toNat 0) 0) else (none)) else (none)) = some r := by rw [if_neg (show ¬ (false = true) by decide)] at H; exact H
       clear H
       have H := H1
       clear H1
       by_cases c113 : 0 ≤ t266
       ·
        rw [if_pos c113] at H
        have c113b0 := eq_true c113
        have c113b1 : decide (0 ≤ t266) = true := decide_eq_true c113
        clear c113
        by_cases c114 : (t266 : Int).toNat ≤ 35184372088832
        ·
         rw [if_pos c114] at H
         have c114b0 := eq_true c114
         have c114b1 : decide ((t266 : Int).toNat ≤ 35184372088832) = true := decide_eq_true c114
         clear c114
         obtain ⟨y302, hy302⟩ : ∃ y_ : List Int, y_ = (List.replicate (t266 : Int).toNat 0) := ⟨_, rfl⟩
         replace H : (laws_FnRanks.l0 kj16 t266 t267 t274 t282 t290 t296 y302 0) = some r := by first | (rw [hy302]; with_reducible exact H) | (have H2_ := (Option.bind_some _ _).symm.trans H; rw [hy302]; with_reducible exact H2_) | (have H2_ := (Option.bind_some _ _).symm.trans H; with_reducible exact H2_) | with_reducible exact H | (rw [hy302]; exact H) | exact H
         have Ny302 := Aside0.mk hy302
         clear hy302
         have H' := Aside0.mk H
         clear H
         go_wp2_with (first | ((with_reducible refine gate_dst (N := 175) rfl ?_); (try (refine gate_guard (by rfl) ?_; dsimp only)); refine Kd.R_make (Kd.int .i64) _ 2 rfl (N := 175) rfl 22 _ _ rfl t266 rfl rfl Try.underlying22 (.int .i64 0) 8 info2 rfl (by decide) (by omega) 0 (ok := fun _ => True) (okp := fun _ => True) rfl (fun _ hk => hk) trivial (of_decide_eq_true (by first | (with_reducible assumption) | assumption)) (Nat.le_trans (Nat.mul_le_mul_right _ (of_decide_eq_true (by first | (with_reducible assumption) | assumption) : t266.toNat ≤ 35184372088832)) (by omega)) (Below.refl _ _) (Nat.le_refl _) ?_; intro v303 w115 ho116 hb hg_ hnew_; clear hg_ hnew_; (first | rw [← Ny302.out] at ho116 | (simp only [Int.reduceToNat] at ho116; rw [← Ny302.out] at ho116)); have n0_ := Aside0.mk (Kd.S_elder' (by (with_reducible repeat (first | apply Kd.S_alloc | apply Kd.S_drewN | apply Kd.S_drew)); exact HO_6.out) (Kd.R_base ho116) hb); have n1_ := Aside0.mk (Kd.S_elder' (by (with_reducible repeat (first | apply Kd.S_alloc | apply Kd.S_drewN | apply Kd.S_drew)); exact HO_9.out) (Kd.R_base ho116) hb); have n2_ := Aside0.mk (Kd.R_elder' (by (with_reducible repeat (first | apply Kd.R_alloc | apply Kd.R_drewN | apply Kd.R_drew)); exact HO_13.out) (Kd.R_base ho116) hb); have n3_ := Aside0.mk (Kd.R_elder' (by (with_reducible repeat (first | apply Kd.R_alloc | apply Kd.R_drewN | apply Kd.R_drew)); exact HO_17.out) (Kd.R_base ho116) hb); have n4_ := Aside0.mk (Kd.R_lower (Kd.R_new' (Kd.R_new' ho116 (Kd.R_lt (by (with_reducible repeat (first | apply Kd.R_alloc | apply Kd.R_drewN | apply Kd.R_drew)); exact HO_13.out))) (Kd.R_lt (by (with_reducible repeat (first | apply Kd.R_alloc | apply Kd.R_drewN | apply Kd.R_drew)); exact HO_17.out))) (below_size (by repeat (first | (with_reducible first | exact HB.out | apply below_alloc | apply pw_below_drewN | apply below_drew1) | exact HB.out)))); have n5_ := Aside0.mk (below_step (by repeat (first | (with_reducible first | exact HB.out | apply below_alloc | apply pw_below_drewN | apply below_drew1) | exact HB.out)) hb); clear HO_6; clear HO_9; clear HO_13; clear HO_17; clear HB; have HO_6 := n0_; have HO_9 := n1_; have HO_13 := n2_; have HO_17 := n3_; have HO304 := n4_; have HB := n5_; clear n0_ n1_ n2_ n3_ n4_ n5_; clear hb ho116))
         go_loopg [24] kj16 (fun kq v24 w' => ∃ (x23_3 : List Int) (x24_3 : Int), v24 = .int .i64 x24_3 ∧ Aside0 (laws_FnRanks.l0 kq t266 t267 t274 t282 t290 t296 x23_3 x24_3 = some r) ∧ Aside0 (kq ≤ kj16) ∧ Aside0 (Kd.S (Kd.slice 2 (Kd.int .i64)) 22 w' w.heap.size (fun k_ => some k_ ≠ (v276 : Value).ownBlock ∧ some k_ ≠ (v284 : Value).ownBlock ∧ some k_ ≠ (v292 : Value).ownBlock ∧ some k_ ≠ (v303 : Value).ownBlock) (.slice Ao19 t267.length co19) t267) ∧ Aside0 (Kd.S (Kd.slice 2 (Kd.int .i64)) 22 w' w.heap.size (fun k_ => some k_ ≠ ((.slice Ao19 t267.length co19) : Value).ownBlock ∧ some k_ ≠ (v284 : Value).ownBlock ∧ some k_ ≠ (v292 : Value).ownBlock ∧ some k_ ≠ (v303 : Value).ownBlock) v276 t274) ∧ Aside0 (Kd.R (Kd.int .i64) 2 w' w.heap.size (fun k_ => some k_ ≠ (v292 : Value).ownBlock ∧ some k_ ≠ (v303 : Value).ownBlock) v284 t282) ∧ Aside0 (Kd.R (Kd.int .i64) 2 w' w.heap.size (fun k_ => some k_ ≠ (v284 : Value).ownBlock ∧ some k_ ≠ (v303 : Value).ownBlock) v292 t290) ∧ Aside0 (Kd.R (Kd.int .i64) 2 w' w.heap.size (fun k_ => some k_ ≠ (v284 : Value).ownBlock ∧ some k_ ≠ (v292 : Value).ownBlock) v303 x23_3) ∧ Aside0 (Below w.heap.size w w'))
         case atStart => exact ⟨(y302), (0), (by first | rfl | (simp; done) | (simp [*]; done)), H', ⟨Nat.le_refl _⟩, ⟨by (with_reducible repeat (first | apply Kd.S_alloc | apply Kd.S_drewN | apply Kd.S_drew)); exact Kd.S_mono HO_6.out (fun _ hk => ⟨hk.1.1, ⟨hk.1.2.1, ⟨hk.1.2.2, hk.2⟩⟩⟩)⟩, ⟨by (with_reducible repeat (first | apply Kd.S_alloc | apply Kd.S_drewN | apply Kd.S_drew)); exact Kd.S_mono HO_9.out (fun _ hk => ⟨hk.1.1, ⟨hk.1.2.1, ⟨hk.1.2.2, hk.2⟩⟩⟩)⟩, ⟨by (with_reducible repeat (first | apply Kd.R_alloc | apply Kd.R_drewN | apply Kd.R_drew)); exact HO_13.out⟩, ⟨by (with_reducible repeat (first | apply Kd.R_alloc | apply Kd.R_drewN | apply Kd.R_drew)); exact HO_17.out⟩, ⟨by (with_reducible repeat (first | apply Kd.R_alloc | apply Kd.R_drewN | apply Kd.R_drew)); exact Kd.R_mono HO304.out (fun _ hk => ⟨hk.1.2, hk.2⟩)⟩, ⟨by repeat (first | (with_reducible first | exact HB.out | apply below_alloc | apply pw_below_drewN | apply below_drew1) | exact HB.out)⟩⟩
         case round => as_aux_lemma =>
          clear H'
          try clear c1
          try clear c2
          try clear p2
          try clear c3
          try clear c4
          try clear c5
          try clear c7
          try clear c11
          try clear c17
          try clear c18
          try clear c19
          try clear c20
          try clear c21
          try clear c22
          try clear c23
          try clear c24
          try clear c25
          try clear c26
          try clear c28
          try clear c28b0
          try clear c28b1
          try clear c29
          try clear c29b0
          try clear c29b1
          try clear c31
          try clear c32
          try clear c32b0
          try clear c32b1
          try clear c32b2
          try clear c33
          try clear c33b0
          try clear c33b1
          try clear c34
          try clear c34b0
          try clear c34b1
          try clear c36
          try clear c37
          try clear c37b0
          try clear c37b1
          try clear c38
          try clear c38b0
          try clear c38b1
          try clear c39
          try clear c39b0
          try clear c39b1
          try clear c41
          try clear c43
          try clear c44
          try clear c44b0
          try clear c44b1
          try clear c45
          try clear c45b0
          try clear c45b1
          try clear c46
          try clear c46b0
          try clear c46b1
          try clear c112
          try clear c113
          try clear c113b0
          try clear c113b1
          try clear c114
          try clear c114b0
          try clear c114b1
          try clear p2
          obtain ⟨x23_3, x24_3, rfl, HA, HK3, HO_6, HO_9, HO_13, HO_17, HO_23, HB⟩ := hrel
          cases gk with
          | zero => exact absurd HA.out (by simp [laws_FnRanks.l0])
          | succ k3 =>
           have H := HA.out
           clear HA
           simp only [laws_FnRanks.l0] at H
           by_cases c117 : x24_3 < (t274.length : Int)
           ·
            rw [if_pos c117] at H
            have c117b0 : decide (x24_3 < (t274.length : Int)) = true := decide_eq_true c117
            clear c117
            have H' := Aside0.mk H
            clear H
            obtain ⟨Ao118, co118, eo118⟩ := Kd.S_slice HO_9.out
            subst eo118
            go_wp2
            go_loopg [25, 26] k3 (fun kq v25 v26 w' => ∃ (x23_4 : List Int) (x25_4 : Int) (x26_4 : Int), v25 = .int .i64 x25_4 ∧ v26 = .int .i64 x26_4 ∧ Aside0 (laws_FnRanks.l1 kq t266 t267 t274 t282 t290 t296 x23_4 x24_3 x25_4 x26_4 = some r) ∧ Aside0 (kq ≤ k3) ∧ Aside0 (Kd.S (Kd.slice 2 (Kd.int .i64)) 22 w' w.heap.size (fun k_ => some k_ ≠ ((.slice Ao118 t274.length co118) : Value).ownBlock ∧ some k_ ≠ (v284 : Value).ownBlock ∧ some k_ ≠ (v292 : Value).ownBlock ∧ some k_ ≠ (v303 : Value).ownBlock) (.slice Ao19 t267.length co19) t267) ∧ Aside0 (Kd.S (Kd.slice 2 (Kd.int .i64)) 22 w' w.heap.size (fun k_ => some k_ ≠ ((.slice Ao19 t267.length co19) : Value).ownBlock ∧ some k_ ≠ (v284 : Value).ownBlock ∧ some k_ ≠ (v292 : Value).ownBlock ∧ some k_ ≠ (v303 : Value).ownBlock) (.slice Ao118 t274.length co118) t274) ∧ Aside0 (Kd.R (Kd.int .i64) 2 w' w.heap.size (fun k_ => some k_ ≠ (v292 : Value).ownBlock ∧ some k_ ≠ (v303 : Value).ownBlock) v284 t282) ∧ Aside0 (Kd.R (Kd.int .i64) 2 w' w.heap.size (fun k_ => some k_ ≠ (v284 : Value).ownBlock ∧ some k_ ≠ (v303 : Value).ownBlock) v292 t290) ∧ Aside0 (Kd.R (Kd.int .i64) 2 w' w.heap.size (fun k_ => some k_ ≠ (v284 : Value).ownBlock ∧ some k_ ≠ (v292 : Value).ownBlock) v303 x23_4) ∧ Aside0 (Below w.heap.size w w'))
            case atStart => exact ⟨(x23_3), (0), (0), (by first | rfl | (simp; done) | (simp [*]; done)), (by first | rfl | (simp; done) | (simp [*]; done)), H', ⟨Nat.le_refl _⟩, ⟨by (with_reducible repeat (first | apply Kd.S_alloc | apply Kd.S_drewN | apply Kd.S_drew)); exact HO_6.out⟩, ⟨by (with_reducible repeat (first | apply Kd.S_alloc | apply Kd.S_drewN | apply Kd.S_drew)); exact HO_9.out⟩, ⟨by (with_reducible repeat (first | apply Kd.R_alloc | apply Kd.R_drewN | apply Kd.R_drew)); exact HO_13.out⟩, ⟨by (with_reducible repeat (first | apply Kd.R_alloc | apply Kd.R_drewN | apply Kd.R_drew)); exact HO_17.out⟩, ⟨by (with_reducible repeat (first | apply Kd.R_alloc | apply Kd.R_drewN | apply Kd.R_drew)); exact HO_23.out⟩, ⟨by repeat (first | (with_reducible first | exact HB.out | apply below_alloc | apply pw_below_drewN | apply below_drew1) | exact HB.out)⟩⟩
            case round => as_aux_lemma =>
             clear H'
             try clear c1
             try clear c2
             try clear p2
             try clear c3
             try clear c4
             try clear c5
             try clear c7
             try clear c11
             try clear c17
             try clear c18
             try clear c19
             try clear c20
             try clear c21
             try clear c22
             try clear c23
             try clear c24
             try clear c25
             try clear c26
             try clear c28
             try clear c28b0
             try clear c28b1
             try clear c29
             try clear c29b0
             try clear c29b1
             try clear c31
             try clear c32
             try clear c32b0
             try clear c32b1
             try clear c32b2
             try clear c33
             try clear c33b0
             try clear c33b1
             try clear c34
             try clear c34b0
             try clear c34b1
             try clear c36
             try clear c37
             try clear c37b0
             try clear c37b1
             try clear c38
             try clear c38b0
             try clear c38b1
             try clear c39
             try clear c39b0
             try clear c39b1
             try clear c41
             try clear c43
             try clear c44
             try clear c44b0
             try clear c44b1
             try clear c45
             try clear c45b0
             try clear c45b1
             try clear c46
             try clear c46b0
             try clear c46b1
             try clear c112
             try clear c113
             try clear c113b0
             try clear c113b1
             try clear c114
             try clear c114b0
             try clear c114b1
             try clear c117
             try clear c117b0
             try clear p2
             obtain ⟨x23_4, x25_4, x26_4, rfl, rfl, HA, HK4, HO_6, HO_9, HO_13, HO_17, HO_23, HB⟩ := hrel
             cases gk with
             | zero => exact absurd HA.out (by simp [laws_FnRanks.l1])
             | succ k4 =>
              have H := HA.out
              clear HA
              simp only [laws_FnRanks.l1] at H
              by_cases c119 : x26_4 < t266
              ·
               rw [if_pos c119] at H
               have c119b0 : decide (x26_4 < t266) = true := decide_eq_true c119
               clear c119
               by_cases c120 : 0 ≤ x24_3
               ·
                rw [if_pos c120] at H
                have c120b0 : decide (0 ≤ x24_3) = true := decide_eq_true c120
                clear c120
                by_cases c121 : x24_3 < (t274.length : Int)
                ·
                 rw [if_pos c121] at H
                 have c121b0 : decide (x24_3 < (t274.length : Int)) = true := decide_eq_true c121
                 clear c121
                 by_cases c122 : 0 ≤ x26_4
                 ·
                  rw [if_pos c122] at H
                  have c122b0 : decide (0 ≤ x26_4) = true := decide_eq_true c122
                  clear c122
                  by_cases c123 : x26_4 < ((rd_L2 t274 x24_3).length : Int)
                  ·
                   rw [if_pos c123] at H
                   have c123b0 : decide (x26_4 < ((rd_L2 t274 x24_3).length : Int)) = true := decide_eq_true c123
                   clear c123
                   by_cases c124 : x26_4 < (x23_4.length : Int)
                   ·
                    rw [if_pos c124] at H
                    have c124b0 : decide (x26_4 < (x23_4.length : Int)) = true := decide_eq_true c124
                    clear c124
                    obtain ⟨y310, hy310⟩ : ∃ y_ : List Int, y_ = (x23_4.set (x26_4 : Int).toNat (wrap64 ((rd x23_4 x26_4) + (rd (rd_L2 t274 x24_3) x26_4)))) := ⟨_, rfl⟩
                    replace H : (laws_FnRanks.l2 k4 t266 t267 t274 t282 t290 t296 y310 x24_3 (wrap64 (x25_4 + (rd (rd_L2 t274 x24_3) x26_4))) x26_4 0) = some r := by first | (rw [hy310]; with_reducible exact H) | (have H2_ := (Option.bind_some _ _).symm.trans H; rw [hy310]; with_reducible exact H2_) | (have H2_ := (Option.bind_some _ _).symm.trans H; with_reducible exact H2_) | with_reducible exact H | (rw [hy310]; exact H) | exact H
                    have Ny310 := Aside0.mk hy310
                    clear hy310
                    have H' := Aside0.mk H
                    clear H
                    have p305 : 0 ≤ (x24_3 : Int) := of_decide_eq_true (by first | (with_reducible assumption) | assumption)
                    have q305 : x24_3 < (t274.length : Int) := of_decide_eq_true (by first | (with_reducible assumption) | assumption)
                    obtain ⟨ad305, A305_0, c305_0, e305, hx305_0, hl305_0, hi305_0⟩ := at_L2 (Kd.S_reads' HO_9.out).2.2 x24_3 p305 q305
                    cases e305
                    obtain ⟨ce305, hce305, hMe305, hcc305⟩ := Kd.S_get HO_9.out [] x24_3 p305 (by first | exact q305 | exact of_decide_eq_true (by first | (with_reducible assumption) | assumption) | (have e_ := (Kd.S_reads' HO_9.out).1; omega))
                    obtain ⟨ve305_0, rfl, ge305_0⟩ := hMe305
                    have hv305_0 := hcc305 0 _ rfl
                    rw [Nat.add_zero, show ((Kd.slice 2 (Kd.int .i64))).sz = 1 from rfl, Nat.mul_one] at hv305_0
                    replace hv305_0 := Option.some.inj (hv305_0.symm.trans hx305_0)
                    rw [hv305_0] at ge305_0
                    have HL305_0 := Aside0.mk (show Kd.R (Kd.int .i64) 2 _ _ _ _ (rd_L2 t274 x24_3) from ge305_0)
                    clear hv305_0 ge305_0
                    clear hcc305 hce305
                    have HR305_0 := Aside0.mk hi305_0
                    have HC305_0 := Aside0.mk hl305_0
                    clear hi305_0 hl305_0
                    replace p305 := eq_true p305
                    replace q305 := eq_true q305
                    have p306 : 0 ≤ (x26_4 : Int) := of_decide_eq_true (by first | (with_reducible assumption) | assumption)
                    have q306 : x26_4 < ((rd_L2 t274 x24_3).length : Int) := of_decide_eq_true (by first | (with_reducible assumption) | assumption)
                    obtain ⟨ad306, e306, hx306_0⟩ := Kd.at_int (by repeat (first | (with_reducible exact HR305_0.out) | (with_reducible refine Kd.C_alloc ?_ _) | (with_reducible refine Kd.C_drewN ?_ _) | (with_reducible refine Kd.C_drew ?_) | exact HR305_0.out)) x26_4 p306 q306
                    cases e306
                    replace p306 := eq_true p306
                    replace q306 := eq_true q306
                    try go_wp2
                    have n0_ := Aside0.mk (Kd.S_drew HO_6.out)
                    have n1_ := Aside0.mk (Kd.S_drew HO_9.out)
                    have n2_ := Aside0.mk (Kd.R_drew HO_13.out)
                    have n3_ := Aside0.mk (Kd.R_drew HO_17.out)
                    have n4_ := Aside0.mk (Kd.R_drew HO_23.out)
                    have n5_ := Aside0.mk (Kd.R_drew HL305_0.out)
                    have n6_ := Aside0.mk (Kd.C_drew HR305_0.out)
                    have n7_ := Aside0.mk (below_drew1 HB.out)
                    clear HO_6
                    clear HO_9
                    clear HO_13
                    clear HO_17
                    clear HO_23
                    clear HL305_0
                    clear HR305_0
                    clear HB
                    have HO_6 := n0_
                    have HO_9 := n1_
                    have HO_13 := n2_
                    have HO_17 := n3_
                    have HO_23 := n4_
                    have HL305_0 := n5_
                    have HR305_0 := n6_
                    have HB := n7_
                    clear n0_ n1_ n2_ n3_ n4_ n5_ n6_ n7_
                    obtain ⟨Ao127, co127, eo127⟩ := Kd.R_slice HO_23.out
                    (first | subst eo127 | (injection eo127 with f1_ f2_ f3_; have f4_ := f1_.symm; have f5_ := f3_.symm; clear f1_ f2_ f3_; subst f4_; subst f5_))
                    have p307 : 0 ≤ (x26_4 : Int) := of_decide_eq_true (by first | (with_reducible assumption) | assumption)
                    have q307 : x26_4 < (x23_4.length : Int) := of_decide_eq_true (by first | (with_reducible assumption) | assumption)
                    obtain ⟨ad307, e307, hx307_0⟩ := Kd.at_int (Kd.R_reads' HO_23.out).2.2 x26_4 p307 q307
                    cases e307
                    replace p307 := eq_true p307
                    replace q307 := eq_true q307
                    have p308 : 0 ≤ (x24_3 : Int) := of_decide_eq_true (by first | (with_reducible assumption) | assumption)
                    have q308 : x24_3 < (t274.length : Int) := of_decide_eq_true (by first | (with_reducible assumption) | assumption)
                    obtain ⟨ad308, A308_0, c308_0, e308, hx308_0, hl308_0, hi308_0⟩ := at_L2 (Kd.S_reads' HO_9.out).2.2 x24_3 p308 q308
                    obtain rfl : ad305 = ad308 := (by injection e308)
                    obtain ⟨ce308, hce308, hMe308, hcc308⟩ := Kd.S_get HO_9.out [] x24_3 p308 (by first | exact q308 | exact of_decide_eq_true (by first | (with_reducible assumption) | assumption) | (have e_ := (Kd.S_reads' HO_9.out).1; omega))
                    obtain ⟨ve308_0, rfl, ge308_0⟩ := hMe308
                    have hv308_0 := hcc308 0 _ rfl
                    rw [Nat.add_zero, show ((Kd.slice 2 (Kd.int .i64))).sz = 1 from rfl, Nat.mul_one] at hv308_0
                    replace hv308_0 := Option.some.inj (hv308_0.symm.trans hx308_0)
                    rw [hv308_0] at ge308_0
                    have HL308_0 := Aside0.mk (show Kd.R (Kd.int .i64) 2 _ _ _ _ (rd_L2 t274 x24_3) from ge308_0)
                    clear hv308_0 ge308_0
                    clear hcc308 hce308
                    have HR308_0 := Aside0.mk hi308_0
                    have HC308_0 := Aside0.mk hl308_0
                    clear hi308_0 hl308_0
                    replace p308 := eq_true p308
                    replace q308 := eq_true q308
                    have p309 : 0 ≤ (x26_4 : Int) := of_decide_eq_true (by first | (with_reducible assumption) | assumption)
                    have q309 : x26_4 < ((rd_L2 t274 x24_3).length : Int) := of_decide_eq_true (by first | (with_reducible assumption) | assumption)
                    obtain ⟨ad309, e309, hx309_0⟩ := Kd.at_int (by repeat (first | (with_reducible exact HR308_0.out) | (with_reducible refine Kd.C_alloc ?_ _) | (with_reducible refine Kd.C_drewN ?_ _) | (with_reducible refine Kd.C_drew ?_) | exact HR308_0.out)) x26_4 p309 q309
                    cases e309
                    replace p309 := eq_true p309
                    replace q309 := eq_true q309
                    have p125 : 0 ≤ (x26_4 : Int) := of_decide_eq_true (by first | (with_reducible assumption) | assumption)
                    have q125 : (x26_4 : Int) < ((x23_4.length : Int) : Int) := of_decide_eq_true (by first | (with_reducible assumption) | assumption)
                    obtain ⟨go125, co125, eo125, gb125, gl125, cl125, HG125⟩ := Kd.R_form HO_23.out (by omega)
                    (first | cases eo125 | (injection eo125 with ea_ en_ ec_; (first | subst ea_ | (injection ea_ with ea_; subst ea_)); subst ec_; clear en_))
                    have GB125 := Aside0.mk gb125
                    have GG125 := Aside0.mk HG125
                    clear gb125 gl125 HG125
                    (first | simp only [add_plain] at hx307_0 | skip)
                    obtain ⟨hx125_0, hf125_0⟩ := Kd.R_celln 0 HO_23.out (x26_4 : Int) p125 q125
                    replace p125 := eq_true p125
                    replace q125 := eq_true q125
                    have HP128 := Kd.R_putn HO_23.out (x26_4 : Int) (wrap64 ((rd x23_4 x26_4) + (rd (rd_L2 t274 x24_3) x26_4)))
                    rw [← Ny310.out] at HP128
                    have HQ128 := Aside0.mk HP128
                    clear HP128
                    refine start_ (n := 14) (S := fun w' => w'.cell? ⟨go125, (x26_4).toNat, none⟩ = some (.int .i64 (rd x23_4 x26_4)) ∧ w'.cell? (ad305.add (x24_3).toNat) = some (.slice (some ad309) (rd_L2 t274 x24_3).length c308_0) ∧ w'.cell? (ad309.add (x26_4).toNat) = some (.int .i64 (rd (rd_L2 t274 x24_3) x26_4))) (ds := [13]) #[false, false, false, false, false, false, false, false, false, false, false, false, false, false] (by kernel_rfl) rfl rfl ⟨hx307_0, hx308_0, hx309_0⟩ (fun hHeld => ?_); refine with_tabW laws_FnRanks.tab23 laws_FnRanks.bits23 (fun HT_ HW_ => ?_)
                    generalize wr.drew = w126 at HO_6 HO_9 HO_13 HO_17 HO_23 HL305_0 HR305_0 HB GG125 HL308_0 HQ128 HR308_0 hf125_0 hx125_0 hx307_0 hx308_0 hx309_0 hHeld ⊢
                    refine pure_ (i := 0) (N := some 196) (v := ?_) (a' := ?_) #[true, false, false, false, false, false, false, false, false, false, false, false, false, false] rfl rfl (any_of HT_.out (by kernel_rfl)) (fun _ _ _ h => h) (Or.inl ⟨by rfl, ?_⟩) ?_ ?_
                    rotate_left
                    ·
                     intro w'
                     go_simp
                     with_reducible rfl
                    rotate_left
                    ·
                     simp only [Act.put, List.setIfInBounds_toArray, List.set_cons_zero, List.set_cons_succ, i64_w, i32_w]
                     rfl
                    refine pure_ (i := 1) (N := some 197) (v := ?_) (a' := ?_) #[true, true, false, false, false, false, false, false, false, false, false, false, false, false] rfl rfl (any_of HT_.out (by kernel_rfl)) (fun _ _ _ h => h) (Or.inl ⟨by rfl, ?_⟩) ?_ ?_
                    rotate_left
                    ·
                     intro w'
                     go_simp
                     with_reducible rfl
                    rotate_left
                    ·
                     simp only [Act.put, List.setIfInBounds_toArray, List.set_cons_zero, List.set_cons_succ, i64_w, i32_w]
                     rfl
                    refine pure_ (i := 2) (N := some 198) (v := ?_) (a' := ?_) #[true, true, true, false, false, false, false, false, false, false, false, false, false, false] rfl rfl (any_of HT_.out (by kernel_rfl)) (fun _ _ _ h => h) (Or.inl ⟨by rfl, ?_⟩) ?_ ?_
                    rotate_left
                    ·
                     intro w'
                     go_simp
                     with_reducible rfl
                    rotate_left
                    ·
                     simp only [Act.put, List.setIfInBounds_toArray, List.set_cons_zero, List.set_cons_succ, i64_w, i32_w]
                     rfl
                    refine pure_ (i := 4) (N := some 200) (v := ?_) (a' := ?_) #[true, true, true, false, true, false, false, false, false, false, false, false, false, false] rfl rfl (any_of HT_.out (by kernel_rfl)) (fun _ _ _ h => h) (Or.inl ⟨by rfl, ?_⟩) ?_ ?_
                    rotate_left
                    ·
                     intro w'
                     go_simp
                     with_reducible rfl
                    rotate_left
                    ·
                     simp only [Act.put, List.setIfInBounds_toArray, List.set_cons_zero, List.set_cons_succ, i64_w, i32_w]
                     rfl
                    refine pure_ (i := 5) (N := some 201) (v := ?_) (a' := ?_) #[true, true, true, false, true, true, false, false, false, false, false, false, false, false] rfl rfl (any_of HT_.out (by kernel_rfl)) (fun _ _ _ h => h) (Or.inl ⟨by rfl, ?_⟩) ?_ ?_
                    rotate_left
                    ·
                     intro w'
                     go_simp
                     with_reducible rfl
                    rotate_left
                    ·
                     simp only [Act.put, List.setIfInBounds_toArray, List.set_cons_zero, List.set_cons_succ, i64_w, i32_w]
                     rfl
                    refine pure_ (i := 6) (N := some 202) (v := ?_) (a' := ?_) #[true, true, true, false, true, true, true, false, false, false, false, false, false, false] rfl rfl (any_of HT_.out (by kernel_rfl)) (fun _ _ _ h => h) (Or.inl ⟨by rfl, ?_⟩) ?_ ?_
                    rotate_left
                    ·
                     intro w'
                     go_simp
                     with_reducible rfl
                    rotate_left
                    ·
                     simp only [Act.put, List.setIfInBounds_toArray, List.set_cons_zero, List.set_cons_succ, i64_w, i32_w]
                     rfl
                    refine pure_ (i := 8) (N := some 204) (v := ?_) (a' := ?_) #[true, true, true, false, true, true, true, false, true, false, false, false, false, false] rfl rfl (any_of HT_.out (by kernel_rfl)) (fun _ _ _ h => h) (Or.inl ⟨by rfl, ?_⟩) ?_ ?_
                    rotate_left
                    ·
                     intro w'
                     go_simp
                     with_reducible rfl
                    rotate_left
                    ·
                     simp only [Act.put, List.setIfInBounds_toArray, List.set_cons_zero, List.set_cons_succ, i64_w, i32_w]
                     rfl
                    refine take_ (i := 3) (N := some 199) (v := ?_) (a' := ?_) #[true, true, true, true, true, true, true, false, true, false, false, false, false, false] rfl rfl (take_ofW HT_.out HW_.out (by kernel_rfl)) (fun _ _ _ h => h) (Or.inl ⟨by rfl, ?_⟩) hHeld ?_ ?_
                    rotate_left
                    ·
                     rintro w' ⟨s0, s1, s2⟩
                     go_simp
                     with_reducible rfl
                    rotate_left
                    ·
                     simp only [Act.put, List.setIfInBounds_toArray, List.set_cons_zero, List.set_cons_succ, i64_w, i32_w]
                     rfl
                    refine take_ (i := 7) (N := some 203) (v := ?_) (a' := ?_) #[true, true, true, true, true, true, true, true, true, false, false, false, false, false] rfl rfl (take_ofW HT_.out HW_.out (by kernel_rfl)) (fun _ _ _ h => h) (Or.inl ⟨by rfl, ?_⟩) hHeld ?_ ?_
                    rotate_left
                    ·
                     rintro w' ⟨s0, s1, s2⟩
                     go_simp
                     with_reducible rfl
                    rotate_left
                    ·
                     simp only [Act.put, List.setIfInBounds_toArray, List.set_cons_zero, List.set_cons_succ, i64_w, i32_w]
                     rfl
                    refine pure_ (i := 9) (N := some 205) (v := ?_) (a' := ?_) #[true, true, true, true, true, true, true, true, true, true, false, false, false, false] rfl rfl (any_of HT_.out (by kernel_rfl)) (fun _ _ _ h => h) (Or.inl ⟨by rfl, ?_⟩) ?_ ?_
                    rotate_left
                    ·
                     intro w'
                     go_simp
                     with_reducible rfl
                    rotate_left
                    ·
                     simp only [Act.put, List.setIfInBounds_toArray, List.set_cons_zero, List.set_cons_succ, i64_w, i32_w]
                     rfl
                    refine take_ (i := 10) (N := some 206) (v := ?_) (a' := ?_) #[true, true, true, true, true, true, true, true, true, true, true, false, false, false] rfl rfl (take_ofW HT_.out HW_.out (by kernel_rfl)) (fun _ _ _ h => h) (Or.inl ⟨by rfl, ?_⟩) hHeld ?_ ?_
                    rotate_left
                    ·
                     rintro w' ⟨s0, s1, s2⟩
                     go_simp
                     with_reducible rfl
                    rotate_left
                    ·
                     simp only [Act.put, List.setIfInBounds_toArray, List.set_cons_zero, List.set_cons_succ, i64_w, i32_w]
                     rfl
                    refine pure_ (i := 11) (N := some 207) (v := ?_) (a' := ?_) #[true, true, true, true, true, true, true, true, true, true, true, true, false, false] rfl rfl (any_of HT_.out (by kernel_rfl)) (fun _ _ _ h => h) (Or.inl ⟨by rfl, ?_⟩) ?_ ?_
                    rotate_left
                    ·
                     intro w'
                     go_simp
                     with_reducible rfl
                    rotate_left
                    ·
                     simp only [Act.put, List.setIfInBounds_toArray, List.set_cons_zero, List.set_cons_succ, i64_w, i32_w]
                     rfl
                    refine pure_ (i := 12) (N := some 208) (v := ?_) (a' := ?_) #[true, true, true, true, true, true, true, true, true, true, true, true, true, false] rfl rfl (any_of HT_.out (by kernel_rfl)) (fun _ _ _ h => h) (Or.inl ⟨by rfl, ?_⟩) ?_ ?_
                    rotate_left
                    ·
                     intro w'
                     go_simp
                     with_reducible rfl
                    rotate_left
                    ·
                     simp only [Act.put, List.setIfInBounds_toArray, List.set_cons_zero, List.set_cons_succ, i64_w, i32_w]
                     rfl
                    refine last_ (i := 13) (N := none) #[true, true, true, true, true, true, true, true, true, true, true, true, true, true] rfl rfl (one_of HT_.out (by kernel_rfl)) (by decide) (fun K hK => ?_)
                    refine skip_ (w1 := ?_) (by rfl) rfl ?_ ?_
                    rotate_left
                    ·
                     go_simp
                     rfl
                    refine hK.out _ _ ?_
                    clear hK K
                    refine done_ (done_of HT_.out (by kernel_rfl)) ?_
                    try go_wp2
                    go_loopg [27] k4 (fun kq v27 w' => ∃ (x27_5 : Int), v27 = .int .i64 x27_5 ∧ Aside0 (laws_FnRanks.l2 kq t266 t267 t274 t282 t290 t296 y310 x24_3 (wrap64 (x25_4 + (rd (rd_L2 t274 x24_3) x26_4))) x26_4 x27_5 = some r) ∧ Aside0 (kq ≤ k4) ∧ Aside0 (Kd.S (Kd.slice 2 (Kd.int .i64)) 22 w' w.heap.size (fun k_ => some k_ ≠ ((.slice (some ad305) t274.length co118) : Value).ownBlock ∧ some k_ ≠ (v284 : Value).ownBlock ∧ some k_ ≠ (v292 : Value).ownBlock ∧ some k_ ≠ ((.slice (some ⟨go125, 0, none⟩) x23_4.length co127) : Value).ownBlock) (.slice Ao19 t267.length co19) t267) ∧ Aside0 (Kd.S (Kd.slice 2 (Kd.int .i64)) 22 w' w.heap.size (fun k_ => some k_ ≠ ((.slice Ao19 t267.length co19) : Value).ownBlock ∧ some k_ ≠ (v284 : Value).ownBlock ∧ some k_ ≠ (v292 : Value).ownBlock ∧ some k_ ≠ ((.slice (some ⟨go125, 0, none⟩) x23_4.length co127) : Value).ownBlock) (.slice (some ad305) t274.length co118) t274) ∧ Aside0 (Kd.R (Kd.int .i64) 2 w' w.heap.size (fun k_ => some k_ ≠ (v292 : Value).ownBlock ∧ some k_ ≠ ((.slice (some ⟨go125, 0, none⟩) x23_4.length co127) : Value).ownBlock) v284 t282) ∧ Aside0 (Kd.R (Kd.int .i64) 2 w' w.heap.size (fun k_ => some k_ ≠ (v284 : Value).ownBlock ∧ some k_ ≠ ((.slice (some ⟨go125, 0, none⟩) x23_4.length co127) : Value).ownBlock) v292 t290) ∧ Aside0 (Kd.R (Kd.int .i64) 2 w' w.heap.size (fun k_ => some k_ ≠ (v284 : Value).ownBlock ∧ some k_ ≠ (v292 : Value).ownBlock) (.slice (some ⟨go125, 0, none⟩) x23_4.length co127) y310) ∧ Aside0 (Kd.C (Kd.int .i64) w' (some ad306) (rd_L2 t274 x24_3).length (rd_L2 t274 x24_3)) ∧ Aside0 (Kd.C (Kd.int .i64) w' (some ad309) (rd_L2 t274 x24_3).length (rd_L2 t274 x24_3)) ∧ Aside0 (Below w.heap.size w w'))
                    case atStart => exact ⟨(0), (by first | rfl | (simp; done) | (simp [*]; done)), H', ⟨Nat.le_refl _⟩, ⟨by (with_reducible repeat (first | apply Kd.S_alloc | apply Kd.S_drewN | apply Kd.S_drew)); exact Kd.S_mono (Kd.S_far (p := ⟨go125, (x26_4 : Int).toNat, none⟩) (Kd.S_mono HO_6.out (fun k_ hk => (⟨hk, fun e_ => hk.2.2.2 (by rw [e_]; rfl)⟩ : _ ∧ k_ ≠ go125))) (fun _ hk => hk.2) (.int .i64 (wrap64 ((rd x23_4 x26_4) + (rd (rd_L2 t274 x24_3) x26_4))))) (fun _ hk => ⟨hk.1.1, ⟨hk.1.2.1, ⟨hk.1.2.2.1, hk.1.2.2.2⟩⟩⟩)⟩, ⟨by (with_reducible repeat (first | apply Kd.S_alloc | apply Kd.S_drewN | apply Kd.S_drew)); exact Kd.S_mono (Kd.S_far (p := ⟨go125, (x26_4 : Int).toNat, none⟩) (Kd.S_mono HO_9.out (fun k_ hk => (⟨hk, fun e_ => hk.2.2.2 (by rw [e_]; rfl)⟩ : _ ∧ k_ ≠ go125))) (fun _ hk => hk.2) (.int .i64 (wrap64 ((rd x23_4 x26_4) + (rd (rd_L2 t274 x24_3) x26_4))))) (fun _ hk => ⟨hk.1.1, ⟨hk.1.2.1, ⟨hk.1.2.2.1, hk.1.2.2.2⟩⟩⟩)⟩, ⟨by (with_reducible repeat (first | apply Kd.R_alloc | apply Kd.R_drewN | apply Kd.R_drew)); exact Kd.R_mono (Kd.R_far (p := ⟨go125, (x26_4 : Int).toNat, none⟩) (Kd.R_mono HO_13.out (fun k_ hk => (⟨hk, fun e_ => hk.2 (by rw [e_]; rfl)⟩ : _ ∧ k_ ≠ go125))) (fun _ hk => hk.2) (.int .i64 (wrap64 ((rd x23_4 x26_4) + (rd (rd_L2 t274 x24_3) x26_4))))) (fun _ hk => ⟨hk.1.1, hk.1.2⟩)⟩, ⟨by (with_reducible repeat (first | apply Kd.R_alloc | apply Kd.R_drewN | apply Kd.R_drew)); exact Kd.R_mono (Kd.R_far (p := ⟨go125, (x26_4 : Int).toNat, none⟩) (Kd.R_mono HO_17.out (fun k_ hk => (⟨hk, fun e_ => hk.2 (by rw [e_]; rfl)⟩ : _ ∧ k_ ≠ go125))) (fun _ hk => hk.2) (.int .i64 (wrap64 ((rd x23_4 x26_4) + (rd (rd_L2 t274 x24_3) x26_4))))) (fun _ hk => ⟨hk.1.1, hk.1.2⟩)⟩, ⟨by (with_reducible repeat (first | apply Kd.R_alloc | apply Kd.R_drewN | apply Kd.R_drew)); exact HQ128.out⟩, ⟨(Kd.R_reads' (by (with_reducible repeat (first | apply Kd.R_alloc | apply Kd.R_drewN | apply Kd.R_drew)); exact (Kd.R_mono (Kd.R_far (p := ⟨go125, (x26_4 : Int).toNat, none⟩) (Kd.R_mono HL305_0.out (fun k_ hk => (⟨hk, fun e_ => hk.1.2.2.2 (by rw [e_]; rfl)⟩ : _ ∧ k_ ≠ go125))) (fun _ hk => hk.2) (.int .i64 (wrap64 ((rd x23_4 x26_4) + (rd (rd_L2 t274 x24_3) x26_4))))) (fun _ h_ => h_.1)))).2.2⟩, ⟨(Kd.R_reads' (by (with_reducible repeat (first | apply Kd.R_alloc | apply Kd.R_drewN | apply Kd.R_drew)); exact (Kd.R_mono (Kd.R_far (p := ⟨go125, (x26_4 : Int).toNat, none⟩) (Kd.R_mono HL308_0.out (fun k_ hk => (⟨hk, fun e_ => hk.1.2.2.2 (by rw [e_]; rfl)⟩ : _ ∧ k_ ≠ go125))) (fun _ hk => hk.2) (.int .i64 (wrap64 ((rd x23_4 x26_4) + (rd (rd_L2 t274 x24_3) x26_4))))) (fun _ h_ => h_.1)))).2.2⟩, ⟨by repeat (first | (with_reducible first | exact HB.out | apply below_alloc | apply pw_below_drewN | apply below_drew1 | refine below_set ?_ GB125.out) | exact HB.out)⟩⟩
                    case round => as_aux_lemma =>
                     clear H'
                     try clear c1
                     try clear p1
                     try clear q1
                     try clear hx1
                     try clear c2
                     try clear p2
                     try clear c3
                     try clear p3
                     try clear q3
                     try clear hx3
                     try clear c4
                     try clear c5
                     try clear p6
                     try clear c7
                     try clear c11
                     try clear c12
                     try clear p12
                     try clear q12
                     try clear hx12
                     try clear hf12
                     try clear c17
                     try clear c18
                     try clear c19
                     try clear c20
                     try clear c21
                     try clear c22
                     try clear c23
                     try clear c24
                     try clear c25
                     try clear c26
                     try clear c28
                     try clear c28b0
                     try clear c28b1
                     try clear c29
                     try clear c29b0
                     try clear c29b1
                     try clear c30
                     try clear p30
                     try clear q30
                     try clear hx30
                     try clear c31
                     try clear c32
                     try clear c32b0
                     try clear c32b1
                     try clear c32b2
                     try clear c33
                     try clear c33b0
                     try clear c33b1
                     try clear c34
                     try clear c34b0
                     try clear c34b1
                     try clear c36
                     try clear c37
                     try clear c37b0
                     try clear c37b1
                     try clear c38
                     try clear c38b0
                     try clear c38b1
                     try clear c39
                     try clear c39b0
                     try clear c39b1
                     try clear c41
                     try clear c43
                     try clear c44
                     try clear c44b0
                     try clear c44b1
                     try clear c45
                     try clear c45b0
                     try clear c45b1
                     try clear c46
                     try clear c46b0
                     try clear c46b1
                     try clear p64
                     try clear c112
                     try clear c113
                     try clear c113b0
                     try clear c113b1
                     try clear c114
                     try clear c114b0
                     try clear c114b1
                     try clear c117
                     try clear c117b0
                     try clear c119
                     try clear c119b0
                     try clear c120
                     try clear c120b0
                     try clear c121
                     try clear c121b0
                     try clear c122
                     try clear c122b0
                     try clear c123
                     try clear c123b0
                     try clear c124
                     try clear c124b0
                     try clear p125
                     try clear q125
                     try clear hx125
                     try clear hf125
                     try clear hx125_0
                     try clear hx305_0
                     try clear hx306_0
                     try clear hx307_0
                     try clear hx308_0
                     try clear hx309_0
                     try clear p125
                     try clear p2
                     try clear p305
                     try clear p306
                     try clear p307
                     try clear p308
                     try clear p309
                     try clear q125
                     try clear q305
                     try clear q306
                     try clear q307
                     try clear q308
                     try clear q309
                     obtain ⟨x27_5, rfl, HA, HK5, HO_6, HO_9, HO_13, HO_17, HO_23, HR305_0, HR308_0, HB⟩ := hrel
                     have hl23_5 := (Kd.R_reads' HO_23.out).1
                     rw [hl23_5] at HO_23
                     (try simp only [hl23_5])
                     (try simp only [hl23_5] at HO_6)
                     (try simp only [hl23_5] at HO_9)
                     (try simp only [hl23_5] at HO_13)
                     (try simp only [hl23_5] at HO_17)
                     cases gk with
                     | zero => exact absurd HA.out (by simp [laws_FnRanks.l2])
                     | succ k5 =>
                      have H := HA.out
                      clear HA
                      simp only [laws_FnRanks.l2] at H
                      by_cases c129 : x27_5 < t266
                      ·
                       rw [if_pos c129] at H
                       have c129b0 : decide (x27_5 < t266) = true := decide_eq_true c129
                       clear c129
                       by_cases c130 : 0 ≤ x24_3
                       ·
                        rw [if_pos c130] at H
                        have c130b0 : decide (0 ≤ x24_3) = true := decide_eq_true c130
                        clear c130
                        by_cases c131 : x24_3 < (t267.length : Int)
                        ·
                         rw [if_pos c131] at H
                         have c131b0 : decide (x24_3 < (t267.length : Int)) = true := decide_eq_true c131
                         clear c131
                         by_cases c132 : 0 ≤ x26_4
                         ·
                          rw [if_pos c132] at H
                          have c132b0 : decide (0 ≤ x26_4) = true := decide_eq_true c132
                          clear c132
                          by_cases c133 : x26_4 < ((rd_L2 t267 x24_3).length : Int)
                          ·
                           rw [if_pos c133] at H
                           have c133b0 : decide (x26_4 < ((rd_L2 t267 x24_3).length : Int)) = true := decide_eq_true c133
                           clear c133
                           by_cases c134 : 0 ≤ x27_5
                           ·
                            rw [if_pos c134] at H
                            have c134b0 : decide (0 ≤ x27_5) = true := decide_eq_true c134
                            clear c134
                            by_cases c135 : x27_5 < ((rd_L2 t267 x24_3).length : Int)
                            ·
                             rw [if_pos c135] at H
                             have c135b0 : decide (x27_5 < ((rd_L2 t267 x24_3).length : Int)) = true := decide_eq_true c135
                             clear c135
                             by_cases c136 : x24_3 < (t274.length : Int)
                             ·
                              rw [if_pos c136] at H
                              have c136b0 : decide (x24_3 < (t274.length : Int)) = true := decide_eq_true c136
                              clear c136
                              by_cases c137 : x26_4 < ((rd_L2 t274 x24_3).length : Int)
                              ·
                               rw [if_pos c137] at H
                               have c137b0 : decide (x26_4 < ((rd_L2 t274 x24_3).length : Int)) = true := decide_eq_true c137
                               clear c137
                               by_cases c138 : x27_5 < ((rd_L2 t274 x24_3).length : Int)
                               ·
                                rw [if_pos c138] at H
                                have c138b0 : decide (x27_5 < ((rd_L2 t274 x24_3).length : Int)) = true := decide_eq_true c138
                                clear c138
                                by_cases c139 : ((decide ((rd (rd_L2 t267 x24_3) x26_4) > (rd (rd_L2 t267 x24_3) x27_5))) != (decide ((rd (rd_L2 t274 x24_3) x26_4) < (rd (rd_L2 t274 x24_3) x27_5)))) = true
                                ·
                                 rw [if_pos c139] at H
                                 have c139b0 : ((decide ((rd (rd_L2 t267 x24_3) x26_4) > (rd (rd_L2 t267 x24_3) x27_5))) != (decide ((rd (rd_L2 t274 x24_3) x26_4) < (rd (rd_L2 t274 x24_3) x27_5)))) = true := c139
                                 (try (have c139b1 : decide ((decide ((rd (rd_L2 t267 x24_3) x26_4) > (rd (rd_L2 t267 x24_3) x27_5))) = (decide ((rd (rd_L2 t274 x24_3) x26_4) < (rd (rd_L2 t274 x24_3) x27_5)))) = false := by simpa using c139))
                                 (try (have c139b2 : ((decide ((rd (rd_L2 t267 x24_3) x26_4) > (rd (rd_L2 t267 x24_3) x27_5))) == (decide ((rd (rd_L2 t274 x24_3) x26_4) < (rd (rd_L2 t274 x24_3) x27_5)))) = false := by simpa using c139))
                                 (try (have c139b3 : ¬ ((decide ((rd (rd_L2 t267 x24_3) x26_4) > (rd (rd_L2 t267 x24_3) x27_5))) = (decide ((rd (rd_L2 t274 x24_3) x26_4) < (rd (rd_L2 t274 x24_3) x27_5)))) := by simpa using c139))
                                 clear c139
                                 exact absurd (Option.some.inj (H.trans (congrArg some HT.out))) Bool.false_ne_true
                                ·
                                 rw [if_neg c139] at H
                                 have c139b0 : ((decide ((rd (rd_L2 t267 x24_3) x26_4) > (rd (rd_L2 t267 x24_3) x27_5))) != (decide ((rd (rd_L2 t274 x24_3) x26_4) < (rd (rd_L2 t274 x24_3) x27_5)))) = false := by simpa using c139
                                 (try (have c139b1 : decide ((decide ((rd (rd_L2 t267 x24_3) x26_4) > (rd (rd_L2 t267 x24_3) x27_5))) = (decide ((rd (rd_L2 t274 x24_3) x26_4) < (rd (rd_L2 t274 x24_3) x27_5)))) = true := by simpa using c139))
                                 (try (have c139b2 : ((decide ((rd (rd_L2 t267 x24_3) x26_4) > (rd (rd_L2 t267 x24_3) x27_5))) == (decide ((rd (rd_L2 t274 x24_3) x26_4) < (rd (rd_L2 t274 x24_3) x27_5)))) = true := by simpa using c139))
                                 clear c139
                                 by_cases c141 : (rd (rd_L2 t274 x24_3) x26_4) < 2
                                 ·
                                  rw [if_pos c141] at H
                                  have c141b0 : decide ((rd (rd_L2 t274 x24_3) x26_4) < 2) = true := decide_eq_true c141
                                  clear c141
                                  exact absurd (Option.some.inj (H.trans (congrArg some HT.out))) Bool.false_ne_true
                                 ·
                                  rw [if_neg c141] at H
                                  have c141b0 : decide ((rd (rd_L2 t274 x24_3) x26_4) < 2) = false := decide_eq_false c141
                                  clear c141
                                  by_cases c143 : (rd (rd_L2 t274 x24_3) x26_4) > (wrap64 (2 * t266))
                                  ·
                                   rw [if_pos c143] at H
                                   have c143b0 : decide ((wrap64 (2 * t266)) < (rd (rd_L2 t274 x24_3) x26_4)) = true := decide_eq_true c143
                                   clear c143
                                   exact absurd (Option.some.inj (H.trans (congrArg some HT.out))) Bool.false_ne_true
                                  ·
                                   rw [if_neg c143] at H
                                   have c143b0 : decide ((wrap64 (2 * t266)) < (rd (rd_L2 t274 x24_3) x26_4)) = false := decide_eq_false c143
                                   clear c143
                                   have H' := Aside0.mk H
                                   clear H
                                   try go_wp2
                                   have n0_ := Aside0.mk (Kd.S_drew HO_6.out)
                                   have n1_ := Aside0.mk (Kd.S_drew HO_9.out)
                                   have n2_ := Aside0.mk (Kd.R_drew HO_13.out)
                                   have n3_ := Aside0.mk (Kd.R_drew HO_17.out)
                                   have n4_ := Aside0.mk (Kd.R_drew HO_23.out)
                                   have n5_ := Aside0.mk (Kd.C_drew HR305_0.out)
                                   have n6_ := Aside0.mk (Kd.C_drew HR308_0.out)
                                   have n7_ := Aside0.mk (below_drew1 HB.out)
                                   clear HO_6
                                   clear HO_9
                                   clear HO_13
                                   clear HO_17
                                   clear HO_23
                                   clear HR305_0
                                   clear HR308_0
                                   clear HB
                                   have HO_6 := n0_
                                   have HO_9 := n1_
                                   have HO_13 := n2_
                                   have HO_17 := n3_
                                   have HO_23 := n4_
                                   have HR305_0 := n5_
                                   have HR308_0 := n6_
                                   have HB := n7_
                                   clear n0_ n1_ n2_ n3_ n4_ n5_ n6_ n7_
                                   have p311 : 0 ≤ (x24_3 : Int) := of_decide_eq_true (by first | (with_reducible assumption) | assumption)
                                   have q311 : x24_3 < (t267.length : Int) := of_decide_eq_true (by first | (with_reducible assumption) | assumption)
                                   obtain ⟨ad311, A311_0, c311_0, e311, hx311_0, hl311_0, hi311_0⟩ := at_L2 (Kd.S_reads' HO_6.out).2.2 x24_3 p311 q311
                                   cases e311
                                   obtain ⟨ce311, hce311, hMe311, hcc311⟩ := Kd.S_get HO_6.out [] x24_3 p311 (by first | exact q311 | exact of_decide_eq_true (by first | (with_reducible assumption) | assumption) | (have e_ := (Kd.S_reads' HO_6.out).1; omega))
                                   obtain ⟨ve311_0, rfl, ge311_0⟩ := hMe311
                                   have hv311_0 := hcc311 0 _ rfl
                                   rw [Nat.add_zero, show ((Kd.slice 2 (Kd.int .i64))).sz = 1 from rfl, Nat.mul_one] at hv311_0
                                   replace hv311_0 := Option.some.inj (hv311_0.symm.trans hx311_0)
                                   rw [hv311_0] at ge311_0
                                   have HL311_0 := Aside0.mk (show Kd.R (Kd.int .i64) 2 _ _ _ _ (rd_L2 t267 x24_3) from ge311_0)
                                   clear hv311_0 ge311_0
                                   clear hcc311 hce311
                                   have HR311_0 := Aside0.mk hi311_0
                                   have HC311_0 := Aside0.mk hl311_0
                                   clear hi311_0 hl311_0
                                   replace p311 := eq_true p311
                                   replace q311 := eq_true q311
                                   have p312 : 0 ≤ (x26_4 : Int) := of_decide_eq_true (by first | (with_reducible assumption) | assumption)
                                   have q312 : x26_4 < ((rd_L2 t267 x24_3).length : Int) := of_decide_eq_true (by first | (with_reducible assumption) | assumption)
                                   obtain ⟨ad312, e312, hx312_0⟩ := Kd.at_int (by repeat (first | (with_reducible exact HR311_0.out) | (with_reducible refine Kd.C_alloc ?_ _) | (with_reducible refine Kd.C_drewN ?_ _) | (with_reducible refine Kd.C_drew ?_) | exact HR311_0.out)) x26_4 p312 q312
                                   cases e312
                                   replace p312 := eq_true p312
                                   replace q312 := eq_true q312
                                   have p313 : 0 ≤ (x24_3 : Int) := of_decide_eq_true (by first | (with_reducible assumption) | assumption)
                                   have q313 : x24_3 < (t267.length : Int) := of_decide_eq_true (by first | (with_reducible assumption) | assumption)
                                   obtain ⟨ad313, A313_0, c313_0, e313, hx313_0, hl313_0, hi313_0⟩ := at_L2 (Kd.S_reads' HO_6.out).2.2 x24_3 p313 q313
                                   obtain rfl : ad311 = ad313 := (by injection e313)
                                   obtain ⟨ce313, hce313, hMe313, hcc313⟩ := Kd.S_get HO_6.out [] x24_3 p313 (by first | exact q313 | exact of_decide_eq_true (by first | (with_reducible assumption) | assumption) | (have e_ := (Kd.S_reads' HO_6.out).1; omega))
                                   obtain ⟨ve313_0, rfl, ge313_0⟩ := hMe313
                                   have hv313_0 := hcc313 0 _ rfl
                                   rw [Nat.add_zero, show ((Kd.slice 2 (Kd.int .i64))).sz = 1 from rfl, Nat.mul_one] at hv313_0
                                   replace hv313_0 := Option.some.inj (hv313_0.symm.trans hx313_0)
                                   rw [hv313_0] at ge313_0
                                   have HL313_0 := Aside0.mk (show Kd.R (Kd.int .i64) 2 _ _ _ _ (rd_L2 t267 x24_3) from ge313_0)
                                   clear hv313_0 ge313_0
                                   clear hcc313 hce313
                                   have HR313_0 := Aside0.mk hi313_0
                                   have HC313_0 := Aside0.mk hl313_0
                                   clear hi313_0 hl313_0
                                   replace p313 := eq_true p313
                                   replace q313 := eq_true q313
                                   have ea_ := Option.some.inj (hx311_0.symm.trans hx313_0)
                                   injection ea_ with ea_ en_ ec_
                                   subst ea_
                                   subst ec_
                                   clear en_
                                   have p314 : 0 ≤ (x27_5 : Int) := of_decide_eq_true (by first | (with_reducible assumption) | assumption)
                                   have q314 : x27_5 < ((rd_L2 t267 x24_3).length : Int) := of_decide_eq_true (by first | (with_reducible assumption) | assumption)
                                   obtain ⟨ad314, e314, hx314_0⟩ := Kd.at_int (by repeat (first | (with_reducible exact HR313_0.out) | (with_reducible refine Kd.C_alloc ?_ _) | (with_reducible refine Kd.C_drewN ?_ _) | (with_reducible refine Kd.C_drew ?_) | exact HR313_0.out)) x27_5 p314 q314
                                   cases e314
                                   replace p314 := eq_true p314
                                   replace q314 := eq_true q314
                                   have p315 : 0 ≤ (x24_3 : Int) := of_decide_eq_true (by first | (with_reducible assumption) | assumption)
                                   have q315 : x24_3 < (t274.length : Int) := of_decide_eq_true (by first | (with_reducible assumption) | assumption)
                                   obtain ⟨ad315, A315_0, c315_0, e315, hx315_0, hl315_0, hi315_0⟩ := at_L2 (Kd.S_reads' HO_9.out).2.2 x24_3 p315 q315
                                   obtain rfl : ad305 = ad315 := (by injection e315)
                                   obtain ⟨ce315, hce315, hMe315, hcc315⟩ := Kd.S_get HO_9.out [] x24_3 p315 (by first | exact q315 | exact of_decide_eq_true (by first | (with_reducible assumption) | assumption) | (have e_ := (Kd.S_reads' HO_9.out).1; omega))
                                   obtain ⟨ve315_0, rfl, ge315_0⟩ := hMe315
                                   have hv315_0 := hcc315 0 _ rfl
                                   rw [Nat.add_zero, show ((Kd.slice 2 (Kd.int .i64))).sz = 1 from rfl, Nat.mul_one] at hv315_0
                                   replace hv315_0 := Option.some.inj (hv315_0.symm.trans hx315_0)
                                   rw [hv315_0] at ge315_0
                                   have HL315_0 := Aside0.mk (show Kd.R (Kd.int .i64) 2 _ _ _ _ (rd_L2 t274 x24_3) from ge315_0)
                                   clear hv315_0 ge315_0
                                   clear hcc315 hce315
                                   have HR315_0 := Aside0.mk hi315_0
                                   have HC315_0 := Aside0.mk hl315_0
                                   clear hi315_0 hl315_0
                                   replace p315 := eq_true p315
                                   replace q315 := eq_true q315
                                   have p316 : 0 ≤ (x26_4 : Int) := of_decide_eq_true (by first | (with_reducible assumption) | assumption)
                                   have q316 : x26_4 < ((rd_L2 t274 x24_3).length : Int) := of_decide_eq_true (by first | (with_reducible assumption) | assumption)
                                   obtain ⟨ad316, e316, hx316_0⟩ := Kd.at_int (by repeat (first | (with_reducible exact HR315_0.out) | (with_reducible refine Kd.C_alloc ?_ _) | (with_reducible refine Kd.C_drewN ?_ _) | (with_reducible refine Kd.C_drew ?_) | exact HR315_0.out)) x26_4 p316 q316
                                   cases e316
                                   replace p316 := eq_true p316
                                   replace q316 := eq_true q316
                                   have p317 : 0 ≤ (x24_3 : Int) := of_decide_eq_true (by first | (with_reducible assumption) | assumption)
                                   have q317 : x24_3 < (t274.length : Int) := of_decide_eq_true (by first | (with_reducible assumption) | assumption)
                                   obtain ⟨ad317, A317_0, c317_0, e317, hx317_0, hl317_0, hi317_0⟩ := at_L2 (Kd.S_reads' HO_9.out).2.2 x24_3 p317 q317
                                   obtain rfl : ad305 = ad317 := (by injection e317)
                                   obtain ⟨ce317, hce317, hMe317, hcc317⟩ := Kd.S_get HO_9.out [] x24_3 p317 (by first | exact q317 | exact of_decide_eq_true (by first | (with_reducible assumption) | assumption) | (have e_ := (Kd.S_reads' HO_9.out).1; omega))
                                   obtain ⟨ve317_0, rfl, ge317_0⟩ := hMe317
                                   have hv317_0 := hcc317 0 _ rfl
                                   rw [Nat.add_zero, show ((Kd.slice 2 (Kd.int .i64))).sz = 1 from rfl, Nat.mul_one] at hv317_0
                                   replace hv317_0 := Option.some.inj (hv317_0.symm.trans hx317_0)
                                   rw [hv317_0] at ge317_0
                                   have HL317_0 := Aside0.mk (show Kd.R (Kd.int .i64) 2 _ _ _ _ (rd_L2 t274 x24_3) from ge317_0)
                                   clear hv317_0 ge317_0
                                   clear hcc317 hce317
                                   have HR317_0 := Aside0.mk hi317_0
                                   have HC317_0 := Aside0.mk hl317_0
                                   clear hi317_0 hl317_0
                                   replace p317 := eq_true p317
                                   replace q317 := eq_true q317
                                   have ea_ := Option.some.inj (hx315_0.symm.trans hx317_0)
                                   injection ea_ with ea_ en_ ec_
                                   subst ea_
                                   subst ec_
                                   clear en_
                                   have p318 : 0 ≤ (x27_5 : Int) := of_decide_eq_true (by first | (with_reducible assumption) | assumption)
                                   have q318 : x27_5 < ((rd_L2 t274 x24_3).length : Int) := of_decide_eq_true (by first | (with_reducible assumption) | assumption)
                                   obtain ⟨ad318, e318, hx318_0⟩ := Kd.at_int (by repeat (first | (with_reducible exact HR317_0.out) | (with_reducible refine Kd.C_alloc ?_ _) | (with_reducible refine Kd.C_drewN ?_ _) | (with_reducible refine Kd.C_drew ?_) | exact HR317_0.out)) x27_5 p318 q318
                                   cases e318
                                   replace p318 := eq_true p318
                                   replace q318 := eq_true q318
                                   have p319 : 0 ≤ (x24_3 : Int) := of_decide_eq_true (by first | (with_reducible assumption) | assumption)
                                   have q319 : x24_3 < (t274.length : Int) := of_decide_eq_true (by first | (with_reducible assumption) | assumption)
                                   obtain ⟨ad319, A319_0, c319_0, e319, hx319_0, hl319_0, hi319_0⟩ := at_L2 (Kd.S_reads' HO_9.out).2.2 x24_3 p319 q319
                                   obtain rfl : ad305 = ad319 := (by injection e319)
                                   obtain ⟨ce319, hce319, hMe319, hcc319⟩ := Kd.S_get HO_9.out [] x24_3 p319 (by first | exact q319 | exact of_decide_eq_true (by first | (with_reducible assumption) | assumption) | (have e_ := (Kd.S_reads' HO_9.out).1; omega))
                                   obtain ⟨ve319_0, rfl, ge319_0⟩ := hMe319
                                   have hv319_0 := hcc319 0 _ rfl
                                   rw [Nat.add_zero, show ((Kd.slice 2 (Kd.int .i64))).sz = 1 from rfl, Nat.mul_one] at hv319_0
                                   replace hv319_0 := Option.some.inj (hv319_0.symm.trans hx319_0)
                                   rw [hv319_0] at ge319_0
                                   have HL319_0 := Aside0.mk (show Kd.R (Kd.int .i64) 2 _ _ _ _ (rd_L2 t274 x24_3) from ge319_0)
                                   clear hv319_0 ge319_0
                                   clear hcc319 hce319
                                   have HR319_0 := Aside0.mk hi319_0
                                   have HC319_0 := Aside0.mk hl319_0
                                   clear hi319_0 hl319_0
                                   replace p319 := eq_true p319
                                   replace q319 := eq_true q319
                                   have ea_ := Option.some.inj (hx315_0.symm.trans hx319_0)
                                   injection ea_ with ea_ en_ ec_
                                   subst ea_
                                   subst ec_
                                   clear en_
                                   have p320 : 0 ≤ (x26_4 : Int) := of_decide_eq_true (by first | (with_reducible assumption) | assumption)
                                   have q320 : x26_4 < ((rd_L2 t274 x24_3).length : Int) := of_decide_eq_true (by first | (with_reducible assumption) | assumption)
                                   obtain ⟨ad320, e320, hx320_0⟩ := Kd.at_int (by repeat (first | (with_reducible exact HR319_0.out) | (with_reducible refine Kd.C_alloc ?_ _) | (with_reducible refine Kd.C_drewN ?_ _) | (with_reducible refine Kd.C_drew ?_) | exact HR319_0.out)) x26_4 p320 q320
                                   cases e320
                                   replace p320 := eq_true p320
                                   replace q320 := eq_true q320
                                   have p321 : 0 ≤ (x24_3 : Int) := of_decide_eq_true (by first | (with_reducible assumption) | assumption)
                                   have q321 : x24_3 < (t274.length : Int) := of_decide_eq_true (by first | (with_reducible assumption) | assumption)
                                   obtain ⟨ad321, A321_0, c321_0, e321, hx321_0, hl321_0, hi321_0⟩ := at_L2 (Kd.S_reads' HO_9.out).2.2 x24_3 p321 q321
                                   obtain rfl : ad305 = ad321 := (by injection e321)
                                   obtain ⟨ce321, hce321, hMe321, hcc321⟩ := Kd.S_get HO_9.out [] x24_3 p321 (by first | exact q321 | exact of_decide_eq_true (by first | (with_reducible assumption) | assumption) | (have e_ := (Kd.S_reads' HO_9.out).1; omega))
                                   obtain ⟨ve321_0, rfl, ge321_0⟩ := hMe321
                                   have hv321_0 := hcc321 0 _ rfl
                                   rw [Nat.add_zero, show ((Kd.slice 2 (Kd.int .i64))).sz = 1 from rfl, Nat.mul_one] at hv321_0
                                   replace hv321_0 := Option.some.inj (hv321_0.symm.trans hx321_0)
                                   rw [hv321_0] at ge321_0
                                   have HL321_0 := Aside0.mk (show Kd.R (Kd.int .i64) 2 _ _ _ _ (rd_L2 t274 x24_3) from ge321_0)
                                   clear hv321_0 ge321_0
                                   clear hcc321 hce321
                                   have HR321_0 := Aside0.mk hi321_0
                                   have HC321_0 := Aside0.mk hl321_0
                                   clear hi321_0 hl321_0
                                   replace p321 := eq_true p321
                                   replace q321 := eq_true q321
                                   have ea_ := Option.some.inj (hx315_0.symm.trans hx321_0)
                                   injection ea_ with ea_ en_ ec_
                                   subst ea_
                                   subst ec_
                                   clear en_
                                   have p322 : 0 ≤ (x26_4 : Int) := of_decide_eq_true (by first | (with_reducible assumption) | assumption)
                                   have q322 : x26_4 < ((rd_L2 t274 x24_3).length : Int) := of_decide_eq_true (by first | (with_reducible assumption) | assumption)
                                   obtain ⟨ad322, e322, hx322_0⟩ := Kd.at_int (by repeat (first | (with_reducible exact HR321_0.out) | (with_reducible refine Kd.C_alloc ?_ _) | (with_reducible refine Kd.C_drewN ?_ _) | (with_reducible refine Kd.C_drew ?_) | exact HR321_0.out)) x26_4 p322 q322
                                   cases e322
                                   replace p322 := eq_true p322
                                   replace q322 := eq_true q322
                                   refine start_ (n := 53) (S := fun w' => w'.cell? (ad311.add (x24_3).toNat) = some (.slice (some ad312) (rd_L2 t267 x24_3).length c311_0) ∧ w'.cell? (ad312.add (x26_4).toNat) = some (.int .i64 (rd (rd_L2 t267 x24_3) x26_4)) ∧ w'.cell? (ad311.add (x24_3).toNat) = some (.slice (some ad312) (rd_L2 t267 x24_3).length c311_0) ∧ w'.cell? (ad312.add (x27_5).toNat) = some (.int .i64 (rd (rd_L2 t267 x24_3) x27_5)) ∧ w'.cell? (ad305.add (x24_3).toNat) = some (.slice (some ad316) (rd_L2 t274 x24_3).length c315_0) ∧ w'.cell? (ad316.add (x26_4).toNat) = some (.int .i64 (rd (rd_L2 t274 x24_3) x26_4)) ∧ w'.cell? (ad305.add (x24_3).toNat) = some (.slice (some ad316) (rd_L2 t274 x24_3).length c315_0) ∧ w'.cell? (ad316.add (x27_5).toNat) = some (.int .i64 (rd (rd_L2 t274 x24_3) x27_5)) ∧ w'.cell? (ad305.add (x24_3).toNat) = some (.slice (some ad316) (rd_L2 t274 x24_3).length c315_0) ∧ w'.cell? (ad316.add (x26_4).toNat) = some (.int .i64 (rd (rd_L2 t274 x24_3) x26_4)) ∧ w'.cell? (ad305.add (x24_3).toNat) = some (.slice (some ad316) (rd_L2 t274 x24_3).length c315_0) ∧ w'.cell? (ad316.add (x26_4).toNat) = some (.int .i64 (rd (rd_L2 t274 x24_3) x26_4))) (ds := []) #[false, false, false, false, false, false, false, false, false, false, false, false, false, false, false, false, false, false, false, false, false, false, false, false, false, false, false, false, false, false, false, false, false, false, false, false, false, false, false, false, false, false, false, false, false, false, false, false, false, false, false, false, false] (by kernel_rfl) rfl rfl ⟨hx311_0, hx312_0, hx313_0, hx314_0, hx315_0, hx316_0, hx317_0, hx318_0, hx319_0, hx320_0, hx321_0, hx322_0⟩ (fun hHeld => ?_); refine with_tabW laws_FnRanks.tab27 laws_FnRanks.bits27 (fun HT_ HW_ => ?_)
                                   generalize wr.drew = w145 at HO_6 HO_9 HO_13 HO_17 HO_23 HR305_0 HR308_0 HB HL311_0 HL313_0 HL315_0 HL317_0 HL319_0 HL321_0 HR311_0 HR313_0 HR315_0 HR317_0 HR319_0 HR321_0 hx311_0 hx312_0 hx313_0 hx314_0 hx315_0 hx316_0 hx317_0 hx318_0 hx319_0 hx320_0 hx321_0 hx322_0 hHeld ⊢
                                   refine pure_ (i := 0) (N := some 214) (v := ?_) (a' := ?_) #[true, false, false, false, false, false, false, false, false, false, false, false, false, false, false, false, false, false, false, false, false, false, false, false, false, false, false, false, false, false, false, false, false, false, false, false, false, false, false, false, false, false, false, false, false, false, false, false, false, false, false, false, false] rfl rfl (any_of HT_.out (by kernel_rfl)) (fun _ _ _ h => h) (Or.inl ⟨by rfl, ?_⟩) ?_ ?_
                                   rotate_left
                                   ·
                                    intro w'
                                    go_simp
                                    with_reducible rfl
                                   rotate_left
                                   ·
                                    simp only [Act.put, List.setIfInBounds_toArray, List.set_cons_zero, List.set_cons_succ, i64_w, i32_w]
                                    rfl
                                   refine pure_ (i := 1) (N := some 215) (v := ?_) (a' := ?_) #[true, true, false, false, false, false, false, false, false, false, false, false, false, false, false, false, false, false, false, false, false, false, false, false, false, false, false, false, false, false, false, false, false, false, false, false, false, false, false, false, false, false, false, false, false, false, false, false, false, false, false, false, false] rfl rfl (any_of HT_.out (by kernel_rfl)) (fun _ _ _ h => h) (Or.inl ⟨by rfl, ?_⟩) ?_ ?_
                                   rotate_left
                                   ·
                                    intro w'
                                    go_simp
                                    with_reducible rfl
                                   rotate_left
                                   ·
                                    simp only [Act.put, List.setIfInBounds_toArray, List.set_cons_zero, List.set_cons_succ, i64_w, i32_w]
                                    rfl
                                   refine pure_ (i := 2) (N := some 216) (v := ?_) (a' := ?_) #[true, true, true, false, false, false, false, false, false, false, false, false, false, false, false, false, false, false, false, false, false, false, false, false, false, false, false, false, false, false, false, false, false, false, false, false, false, false, false, false, false, false, false, false, false, false, false, false, false, false, false, false, false] rfl rfl (any_of HT_.out (by kernel_rfl)) (fun _ _ _ h => h) (Or.inl ⟨by rfl, ?_⟩) ?_ ?_
                                   rotate_left
                                   ·
                                    intro w'
                                    go_simp
                                    with_reducible rfl
                                   rotate_left
                                   ·
                                    simp only [Act.put, List.setIfInBounds_toArray, List.set_cons_zero, List.set_cons_succ, i64_w, i32_w]
                                    rfl
                                   refine pure_ (i := 4) (N := some 218) (v := ?_) (a' := ?_) #[true, true, true, false, true, false, false, false, false, false, false, false, false, false, false, false, false, false, false, false, false, false, false, false, false, false, false, false, false, false, false, false, false, false, false, false, false, false, false, false, false, false, false, false, false, false, false, false, false, false, false, false, false] rfl rfl (any_of HT_.out (by kernel_rfl)) (fun _ _ _ h => h) (Or.inl ⟨by rfl, ?_⟩) ?_ ?_
                                   rotate_left
                                   ·
                                    intro w'
                                    go_simp
                                    with_reducible rfl
                                   rotate_left
                                   ·
                                    simp only [Act.put, List.setIfInBounds_toArray, List.set_cons_zero, List.set_cons_succ, i64_w, i32_w]
                                    rfl
                                   refine pure_ (i := 7) (N := some 221) (v := ?_) (a' := ?_) #[true, true, true, false, true, false, false, true, false, false, false, false, false, false, false, false, false, false, false, false, false, false, false, false, false, false, false, false, false, false, false, false, false, false, false, false, false, false, false, false, false, false, false, false, false, false, false, false, false, false, false, false, false] rfl rfl (any_of HT_.out (by kernel_rfl)) (fun _ _ _ h => h) (Or.inl ⟨by rfl, ?_⟩) ?_ ?_
                                   rotate_left
                                   ·
                                    intro w'
                                    go_simp
                                    with_reducible rfl
                                   rotate_left
                                   ·
                                    simp only [Act.put, List.setIfInBounds_toArray, List.set_cons_zero, List.set_cons_succ, i64_w, i32_w]
                                    rfl
                                   refine pure_ (i := 8) (N := some 222) (v := ?_) (a' := ?_) #[true, true, true, false, true, false, false, true, true, false, false, false, false, false, false, false, false, false, false, false, false, false, false, false, false, false, false, false, false, false, false, false, false, false, false, false, false, false, false, false, false, false, false, false, false, false, false, false, false, false, false, false, false] rfl rfl (any_of HT_.out (by kernel_rfl)) (fun _ _ _ h => h) (Or.inl ⟨by rfl, ?_⟩) ?_ ?_
                                   rotate_left
                                   ·
                                    intro w'
                                    go_simp
                                    with_reducible rfl
                                   rotate_left
                                   ·
                                    simp only [Act.put, List.setIfInBounds_toArray, List.set_cons_zero, List.set_cons_succ, i64_w, i32_w]
                                    rfl
                                   refine pure_ (i := 9) (N := some 223) (v := ?_) (a' := ?_) #[true, true, true, false, true, false, false, true, true, true, false, false, false, false, false, false, false, false, false, false, false, false, false, false, false, false, false, false, false, false, false, false, false, false, false, false, false, false, false, false, false, false, false, false, false, false, false, false, false, false, false, false, false] rfl rfl (any_of HT_.out (by kernel_rfl)) (fun _ _ _ h => h) (Or.inl ⟨by rfl, ?_⟩) ?_ ?_
                                   rotate_left
                                   ·
                                    intro w'
                                    go_simp
                                    with_reducible rfl
                                   rotate_left
                                   ·
                                    simp only [Act.put, List.setIfInBounds_toArray, List.set_cons_zero, List.set_cons_succ, i64_w, i32_w]
                                    rfl
                                   refine pure_ (i := 11) (N := some 225) (v := ?_) (a' := ?_) #[true, true, true, false, true, false, false, true, true, true, false, true, false, false, false, false, false, false, false, false, false, false, false, false, false, false, false, false, false, false, false, false, false, false, false, false, false, false, false, false, false, false, false, false, false, false, false, false, false, false, false, false, false] rfl rfl (any_of HT_.out (by kernel_rfl)) (fun _ _ _ h => h) (Or.inl ⟨by rfl, ?_⟩) ?_ ?_
                                   rotate_left
                                   ·
                                    intro w'
                                    go_simp
                                    with_reducible rfl
                                   rotate_left
                                   ·
                                    simp only [Act.put, List.setIfInBounds_toArray, List.set_cons_zero, List.set_cons_succ, i64_w, i32_w]
                                    rfl
                                   refine pure_ (i := 15) (N := some 229) (v := ?_) (a' := ?_) #[true, true, true, false, true, false, false, true, true, true, false, true, false, false, false, true, false, false, false, false, false, false, false, false, false, false, false, false, false, false, false, false, false, false, false, false, false, false, false, false, false, false, false, false, false, false, false, false, false, false, false, false, false] rfl rfl (any_of HT_.out (by kernel_rfl)) (fun _ _ _ h => h) (Or.inl ⟨by rfl, ?_⟩) ?_ ?_
                                   rotate_left
                                   ·
                                    intro w'
                                    go_simp
                                    with_reducible rfl
                                   rotate_left
                                   ·
                                    simp only [Act.put, List.setIfInBounds_toArray, List.set_cons_zero, List.set_cons_succ, i64_w, i32_w]
                                    rfl
                                   refine pure_ (i := 16) (N := some 230) (v := ?_) (a' := ?_) #[true, true, true, false, true, false, false, true, true, true, false, true, false, false, false, true, true, false, false, false, false, false, false, false, false, false, false, false, false, false, false, false, false, false, false, false, false, false, false, false, false, false, false, false, false, false, false, false, false, false, false, false, false] rfl rfl (any_of HT_.out (by kernel_rfl)) (fun _ _ _ h => h) (Or.inl ⟨by rfl, ?_⟩) ?_ ?_
                                   rotate_left
                                   ·
                                    intro w'
                                    go_simp
                                    with_reducible rfl
                                   rotate_left
                                   ·
                                    simp only [Act.put, List.setIfInBounds_toArray, List.set_cons_zero, List.set_cons_succ, i64_w, i32_w]
                                    rfl
                                   refine pure_ (i := 17) (N := some 231) (v := ?_) (a' := ?_) #[true, true, true, false, true, false, false, true, true, true, false, true, false, false, false, true, true, true, false, false, false, false, false, false, false, false, false, false, false, false, false, false, false, false, false, false, false, false, false, false, false, false, false, false, false, false, false, false, false, false, false, false, false] rfl rfl (any_of HT_.out (by kernel_rfl)) (fun _ _ _ h => h) (Or.inl ⟨by rfl, ?_⟩) ?_ ?_
                                   rotate_left
                                   ·
                                    intro w'
                                    go_simp
                                    with_reducible rfl
                                   rotate_left
                                   ·
                                    simp only [Act.put, List.setIfInBounds_toArray, List.set_cons_zero, List.set_cons_succ, i64_w, i32_w]
                                    rfl
                                   refine pure_ (i := 19) (N := some 233) (v := ?_) (a' := ?_) #[true, true, true, false, true, false, false, true, true, true, false, true, false, false, false, true, true, true, false, true, false, false, false, false, false, false, false, false, false, false, false, false, false, false, false, false, false, false, false, false, false, false, false, false, false, false, false, false, false, false, false, false, false] rfl rfl (any_of HT_.out (by kernel_rfl)) (fun _ _ _ h => h) (Or.inl ⟨by rfl, ?_⟩) ?_ ?_
                                   rotate_left
                                   ·
                                    intro w'
                                    go_simp
                                    with_reducible rfl
                                   rotate_left
                                   ·
                                    simp only [Act.put, List.setIfInBounds_toArray, List.set_cons_zero, List.set_cons_succ, i64_w, i32_w]
                                    rfl
                                   refine pure_ (i := 22) (N := some 236) (v := ?_) (a' := ?_) #[true, true, true, false, true, false, false, true, true, true, false, true, false, false, false, true, true, true, false, true, false, false, true, false, false, false, false, false, false, false, false, false, false, false, false, false, false, false, false, false, false, false, false, false, false, false, false, false, false, false, false, false, false] rfl rfl (any_of HT_.out (by kernel_rfl)) (fun _ _ _ h => h) (Or.inl ⟨by rfl, ?_⟩) ?_ ?_
                                   rotate_left
                                   ·
                                    intro w'
                                    go_simp
                                    with_reducible rfl
                                   rotate_left
                                   ·
                                    simp only [Act.put, List.setIfInBounds_toArray, List.set_cons_zero, List.set_cons_succ, i64_w, i32_w]
                                    rfl
                                   refine pure_ (i := 23) (N := some 237) (v := ?_) (a' := ?_) #[true, true, true, false, true, false, false, true, true, true, false, true, false, false, false, true, true, true, false, true, false, false, true, true, false, false, false, false, false, false, false, false, false, false, false, false, false, false, false, false, false, false, false, false, false, false, false, false, false, false, false, false, false] rfl rfl (any_of HT_.out (by kernel_rfl)) (fun _ _ _ h => h) (Or.inl ⟨by rfl, ?_⟩) ?_ ?_
                                   rotate_left
                                   ·
                                    intro w'
                                    go_simp
                                    with_reducible rfl
                                   rotate_left
                                   ·
                                    simp only [Act.put, List.setIfInBounds_toArray, List.set_cons_zero, List.set_cons_succ, i64_w, i32_w]
                                    rfl
                                   refine pure_ (i := 24) (N := some 238) (v := ?_) (a' := ?_) #[true, true, true, false, true, false, false, true, true, true, false, true, false, false, false, true, true, true, false, true, false, false, true, true, true, false, false, false, false, false, false, false, false, false, false, false, false, false, false, false, false, false, false, false, false, false, false, false, false, false, false, false, false] rfl rfl (any_of HT_.out (by kernel_rfl)) (fun _ _ _ h => h) (Or.inl ⟨by rfl, ?_⟩) ?_ ?_
                                   rotate_left
                                   ·
                                    intro w'
                                    go_simp
                                    with_reducible rfl
                                   rotate_left
                                   ·
                                    simp only [Act.put, List.setIfInBounds_toArray, List.set_cons_zero, List.set_cons_succ, i64_w, i32_w]
                                    rfl
                                   refine pure_ (i := 26) (N := some 240) (v := ?_) (a' := ?_) #[true, true, true, false, true, false, false, true, true, true, false, true, false, false, false, true, true, true, false, true, false, false, true, true, true, false, true, false, false, false, false, false, false, false, false, false, false, false, false, false, false, false, false, false, false, false, false, false, false, false, false, false, false] rfl rfl (any_of HT_.out (by kernel_rfl)) (fun _ _ _ h => h) (Or.inl ⟨by rfl, ?_⟩) ?_ ?_
                                   rotate_left
                                   ·
                                    intro w'
                                    go_simp
                                    with_reducible rfl
                                   rotate_left
                                   ·
                                    simp only [Act.put, List.setIfInBounds_toArray, List.set_cons_zero, List.set_cons_succ, i64_w, i32_w]
                                    rfl
                                   refine take_ (i := 3) (N := some 217) (v := ?_) (a' := ?_) #[true, true, true, true, true, false, false, true, true, true, false, true, false, false, false, true, true, true, false, true, false, false, true, true, true, false, true, false, false, false, false, false, false, false, false, false, false, false, false, false, false, false, false, false, false, false, false, false, false, false, false, false, false] rfl rfl (take_ofW HT_.out HW_.out (by kernel_rfl)) (fun _ _ _ h => h) (Or.inl ⟨by rfl, ?_⟩) hHeld ?_ ?_
                                   rotate_left
                                   ·
                                    rintro w' ⟨s0, s1, s2, s3, s4, s5, s6, s7, s8, s9, s10, s11⟩
                                    go_simp
                                    with_reducible rfl
                                   rotate_left
                                   ·
                                    simp only [Act.put, List.setIfInBounds_toArray, List.set_cons_zero, List.set_cons_succ, i64_w, i32_w]
                                    rfl
                                   refine pure_ (i := 5) (N := some 219) (v := ?_) (a' := ?_) #[true, true, true, true, true, true, false, true, true, true, false, true, false, false, false, true, true, true, false, true, false, false, true, true, true, false, true, false, false, false, false, false, false, false, false, false, false, false, false, false, false, false, false, false, false, false, false, false, false, false, false, false, false] rfl rfl (any_of HT_.out (by kernel_rfl)) (fun _ _ _ h => h) (Or.inl ⟨by rfl, ?_⟩) ?_ ?_
                                   rotate_left
                                   ·
                                    intro w'
                                    go_simp
                                    with_reducible rfl
                                   rotate_left
                                   ·
                                    simp only [Act.put, List.setIfInBounds_toArray, List.set_cons_zero, List.set_cons_succ, i64_w, i32_w]
                                    rfl
                                   refine take_ (i := 6) (N := some 220) (v := ?_) (a' := ?_) #[true, true, true, true, true, true, true, true, true, true, false, true, false, false, false, true, true, true, false, true, false, false, true, true, true, false, true, false, false, false, false, false, false, false, false, false, false, false, false, false, false, false, false, false, false, false, false, false, false, false, false, false, false] rfl rfl (take_ofW HT_.out HW_.out (by kernel_rfl)) (fun _ _ _ h => h) (Or.inl ⟨by rfl, ?_⟩) hHeld ?_ ?_
                                   rotate_left
                                   ·
                                    rintro w' ⟨s0, s1, s2, s3, s4, s5, s6, s7, s8, s9, s10, s11⟩
                                    go_simp
                                    with_reducible rfl
                                   rotate_left
                                   ·
                                    simp only [Act.put, List.setIfInBounds_toArray, List.set_cons_zero, List.set_cons_succ, i64_w, i32_w]
                                    rfl
                                   refine take_ (i := 10) (N := some 224) (v := ?_) (a' := ?_) #[true, true, true, true, true, true, true, true, true, true, true, true, false, false, false, true, true, true, false, true, false, false, true, true, true, false, true, false, false, false, false, false, false, false, false, false, false, false, false, false, false, false, false, false, false, false, false, false, false, false, false, false, false] rfl rfl (take_ofW HT_.out HW_.out (by kernel_rfl)) (fun _ _ _ h => h) (Or.inl ⟨by rfl, ?_⟩) hHeld ?_ ?_
                                   rotate_left
                                   ·
                                    rintro w' ⟨s0, s1, s2, s3, s4, s5, s6, s7, s8, s9, s10, s11⟩
                                    go_simp
                                    with_reducible rfl
                                   rotate_left
                                   ·
                                    simp only [Act.put, List.setIfInBounds_toArray, List.set_cons_zero, List.set_cons_succ, i64_w, i32_w]
                                    rfl
                                   refine pure_ (i := 12) (N := some 226) (v := ?_) (a' := ?_) #[true, true, true, true, true, true, true, true, true, true, true, true, true, false, false, true, true, true, false, true, false, false, true, true, true, false, true, false, false, false, false, false, false, false, false, false, false, false, false, false, false, false, false, false, false, false, false, false, false, false, false, false, false] rfl rfl (any_of HT_.out (by kernel_rfl)) (fun _ _ _ h => h) (Or.inl ⟨by rfl, ?_⟩) ?_ ?_
                                   rotate_left
                                   ·
                                    intro w'
                                    go_simp
                                    with_reducible rfl
                                   rotate_left
                                   ·
                                    simp only [Act.put, List.setIfInBounds_toArray, List.set_cons_zero, List.set_cons_succ, i64_w, i32_w]
                                    rfl
                                   refine take_ (i := 13) (N := some 227) (v := ?_) (a' := ?_) #[true, true, true, true, true, true, true, true, true, true, true, true, true, true, false, true, true, true, false, true, false, false, true, true, true, false, true, false, false, false, false, false, false, false, false, false, false, false, false, false, false, false, false, false, false, false, false, false, false, false, false, false, false] rfl rfl (take_ofW HT_.out HW_.out (by kernel_rfl)) (fun _ _ _ h => h) (Or.inl ⟨by rfl, ?_⟩) hHeld ?_ ?_
                                   rotate_left
                                   ·
                                    rintro w' ⟨s0, s1, s2, s3, s4, s5, s6, s7, s8, s9, s10, s11⟩
                                    go_simp
                                    with_reducible rfl
                                   rotate_left
                                   ·
                                    simp only [Act.put, List.setIfInBounds_toArray, List.set_cons_zero, List.set_cons_succ, i64_w, i32_w]
                                    rfl
                                   refine pure_ (i := 14) (N := some 228) (v := ?_) (a' := ?_) #[true, true, true, true, true, true, true, true, true, true, true, true, true, true, true, true, true, true, false, true, false, false, true, true, true, false, true, false, false, false, false, false, false, false, false, false, false, false, false, false, false, false, false, false, false, false, false, false, false, false, false, false, false] rfl rfl (any_of HT_.out (by kernel_rfl)) (fun _ _ _ h => h) (Or.inl ⟨by rfl, ?_⟩) ?_ ?_
                                   rotate_left
                                   ·
                                    intro w'
                                    go_simp
                                    with_reducible rfl
                                   rotate_left
                                   ·
                                    simp only [Act.put, List.setIfInBounds_toArray, List.set_cons_zero, List.set_cons_succ, i64_w, i32_w]
                                    rfl
                                   refine take_ (i := 18) (N := some 232) (v := ?_) (a' := ?_) #[true, true, true, true, true, true, true, true, true, true, true, true, true, true, true, true, true, true, true, true, false, false, true, true, true, false, true, false, false, false, false, false, false, false, false, false, false, false, false, false, false, false, false, false, false, false, false, false, false, false, false, false, false] rfl rfl (take_ofW HT_.out HW_.out (by kernel_rfl)) (fun _ _ _ h => h) (Or.inl ⟨by rfl, ?_⟩) hHeld ?_ ?_
                                   rotate_left
                                   ·
                                    rintro w' ⟨s0, s1, s2, s3, s4, s5, s6, s7, s8, s9, s10, s11⟩
                                    go_simp
                                    with_reducible rfl
                                   rotate_left
                                   ·
                                    simp only [Act.put, List.setIfInBounds_toArray, List.set_cons_zero, List.set_cons_succ, i64_w, i32_w]
                                    rfl
                                   refine pure_ (i := 20) (N := some 234) (v := ?_) (a' := ?_) #[true, true, true, true, true, true, true, true, true, true, true, true, true, true, true, true, true, true, true, true, true, false, true, true, true, false, true, false, false, false, false, false, false, false, false, false, false, false, false, false, false, false, false, false, false, false, false, false, false, false, false, false, false] rfl rfl (any_of HT_.out (by kernel_rfl)) (fun _ _ _ h => h) (Or.inl ⟨by rfl, ?_⟩) ?_ ?_
                                   rotate_left
                                   ·
                                    intro w'
                                    go_simp
                                    with_reducible rfl
                                   rotate_left
                                   ·
                                    simp only [Act.put, List.setIfInBounds_toArray, List.set_cons_zero, List.set_cons_succ, i64_w, i32_w]
                                    rfl
                                   refine take_ (i := 21) (N := some 235) (v := ?_) (a' := ?_) #[true, true, true, true, true, true, true, true, true, true, true, true, true, true, true, true, true, true, true, true, true, true, true, true, true, false, true, false, false, false, false, false, false, false, false, false, false, false, false, false, false, false, false, false, false, false, false, false, false, false, false, false, false] rfl rfl (take_ofW HT_.out HW_.out (by kernel_rfl)) (fun _ _ _ h => h) (Or.inl ⟨by rfl, ?_⟩) hHeld ?_ ?_
                                   rotate_left
                                   ·
                                    rintro w' ⟨s0, s1, s2, s3, s4, s5, s6, s7, s8, s9, s10, s11⟩
                                    go_simp
                                    with_reducible rfl
                                   rotate_left
                                   ·
                                    simp only [Act.put, List.setIfInBounds_toArray, List.set_cons_zero, List.set_cons_succ, i64_w, i32_w]
                                    rfl
                                   refine take_ (i := 25) (N := some 239) (v := ?_) (a' := ?_) #[true, true, true, true, true, true, true, true, true, true, true, true, true, true, true, true, true, true, true, true, true, true, true, true, true, true, true, false, false, false, false, false, false, false, false, false, false, false, false, false, false, false, false, false, false, false, false, false, false, false, false, false, false] rfl rfl (take_ofW HT_.out HW_.out (by kernel_rfl)) (fun _ _ _ h => h) (Or.inl ⟨by rfl, ?_⟩) hHeld ?_ ?_
                                   rotate_left
                                   ·
                                    rintro w' ⟨s0, s1, s2, s3, s4, s5, s6, s7, s8, s9, s10, s11⟩
                                    go_simp
                                    with_reducible rfl
                                   rotate_left
                                   ·
                                    simp only [Act.put, List.setIfInBounds_toArray, List.set_cons_zero, List.set_cons_succ, i64_w, i32_w]
                                    rfl
                                   refine pure_ (i := 27) (N := some 241) (v := ?_) (a' := ?_) #[true, true, true, true, true, true, true, true, true, true, true, true, true, true, true, true, true, true, true, true, true, true, true, true, true, true, true, true, false, false, false, false, false, false, false, false, false, false, false, false, false, false, false, false, false, false, false, false, false, false, false, false, false] rfl rfl (any_of HT_.out (by kernel_rfl)) (fun _ _ _ h => h) (Or.inl ⟨by rfl, ?_⟩) ?_ ?_
                                   rotate_left
                                   ·
                                    intro w'
                                    go_simp
                                    with_reducible rfl
                                   rotate_left
                                   ·
                                    simp only [Act.put, List.setIfInBounds_toArray, List.set_cons_zero, List.set_cons_succ, i64_w, i32_w]
                                    rfl
                                   refine take_ (i := 28) (N := some 242) (v := ?_) (a' := ?_) #[true, true, true, true, true, true, true, true, true, true, true, true, true, true, true, true, true, true, true, true, true, true, true, true, true, true, true, true, true, false, false, false, false, false, false, false, false, false, false, false, false, false, false, false, false, false, false, false, false, false, false, false, false] rfl rfl (take_ofW HT_.out HW_.out (by kernel_rfl)) (fun _ _ _ h => h) (Or.inl ⟨by rfl, ?_⟩) hHeld ?_ ?_
                                   rotate_left
                                   ·
                                    rintro w' ⟨s0, s1, s2, s3, s4, s5, s6, s7, s8, s9, s10, s11⟩
                                    go_simp
                                    with_reducible rfl
                                   rotate_left
                                   ·
                                    simp only [Act.put, List.setIfInBounds_toArray, List.set_cons_zero, List.set_cons_succ, i64_w, i32_w]
                                    rfl
                                   refine pure_ (i := 29) (N := some 243) (v := ?_) (a' := ?_) #[true, true, true, true, true, true, true, true, true, true, true, true, true, true, true, true, true, true, true, true, true, true, true, true, true, true, true, true, true, true, false, false, false, false, false, false, false, false, false, false, false, false, false, false, false, false, false, false, false, false, false, false, false] rfl rfl (any_of HT_.out (by kernel_rfl)) (fun _ _ _ h => h) (Or.inl ⟨by rfl, ?_⟩) ?_ ?_
                                   rotate_left
                                   ·
                                    intro w'
                                    go_simp
                                    with_reducible rfl
                                   rotate_left
                                   ·
                                    simp only [Act.put, List.setIfInBounds_toArray, List.set_cons_zero, List.set_cons_succ, i64_w, i32_w]
                                    rfl
                                   refine pure_ (i := 30) (N := some 244) (v := ?_) (a' := ?_) #[true, true, true, true, true, true, true, true, true, true, true, true, true, true, true, true, true, true, true, true, true, true, true, true, true, true, true, true, true, true, true, false, false, false, false, false, false, false, false, false, false, false, false, false, false, false, false, false, false, false, false, false, false] rfl rfl (any_of HT_.out (by kernel_rfl)) (fun _ _ _ h => h) (Or.inl ⟨by rfl, ?_⟩) ?_ ?_
                                   rotate_left
                                   ·
                                    intro w'
                                    go_simp
                                    with_reducible rfl
                                   rotate_left
                                   ·
                                    simp only [Act.put, List.setIfInBounds_toArray, List.set_cons_zero, List.set_cons_succ, i64_w, i32_w]
                                    rfl
                                   refine pure_ (i := 31) (N := some 245) (v := ?_) (a' := ?_) #[true, true, true, true, true, true, true, true, true, true, true, true, true, true, true, true, true, true, true, true, true, true, true, true, true, true, true, true, true, true, true, true, false, false, false, false, false, false, false, false, false, false, false, false, false, false, false, false, false, false, false, false, false] rfl rfl (any_of HT_.out (by kernel_rfl)) (fun _ _ _ h => h) (Or.inl ⟨by rfl, ?_⟩) ?_ ?_
                                   rotate_left
                                   ·
                                    intro w'
                                    go_simp
                                    with_reducible rfl
                                   rotate_left
                                   ·
                                    simp only [Act.put, List.setIfInBounds_toArray, List.set_cons_zero, List.set_cons_succ, i64_w, i32_w]
                                    rfl
                                   refine pure_ (i := 32) (N := some 246) (v := ?_) (a' := ?_) #[true, true, true, true, true, true, true, true, true, true, true, true, true, true, true, true, true, true, true, true, true, true, true, true, true, true, true, true, true, true, true, true, true, false, false, false, false, false, false, false, false, false, false, false, false, false, false, false, false, false, false, false, false] rfl rfl (any_of HT_.out (by kernel_rfl)) (fun _ _ _ h => h) (Or.inl ⟨by rfl, ?_⟩) ?_ ?_
                                   rotate_left
                                   ·
                                    intro w'
                                    go_simp
                                    with_reducible rfl
                                   rotate_left
                                   ·
                                    simp only [Act.put, List.setIfInBounds_toArray, List.set_cons_zero, List.set_cons_succ, i64_w, i32_w]
                                    rfl
                                   refine pure_ (i := 33) (N := some 247) (v := ?_) (a' := ?_) #[true, true, true, true, true, true, true, true, true, true, true, true, true, true, true, true, true, true, true, true, true, true, true, true, true, true, true, true, true, true, true, true, true, true, false, false, false, false, false, false, false, false, false, false, false, false, false, false, false, false, false, false, false] rfl rfl (any_of HT_.out (by kernel_rfl)) (fun _ _ _ h => h) (Or.inl ⟨by rfl, ?_⟩) ?_ ?_
                                   rotate_left
                                   ·
                                    intro w'
                                    go_simp
                                    with_reducible rfl
                                   rotate_left
                                   ·
                                    simp only [Act.put, List.setIfInBounds_toArray, List.set_cons_zero, List.set_cons_succ, i64_w, i32_w]
                                    rfl
                                   refine pure_ (i := 34) (N := some 248) (v := ?_) (a' := ?_) #[true, true, true, true, true, true, true, true, true, true, true, true, true, true, true, true, true, true, true, true, true, true, true, true, true, true, true, true, true, true, true, true, true, true, true, false, false, false, false, false, false, false, false, false, false, false, false, false, false, false, false, false, false] rfl rfl (any_of HT_.out (by kernel_rfl)) (fun _ _ _ h => h) (Or.inl ⟨by rfl, ?_⟩) ?_ ?_
                                   rotate_left
                                   ·
                                    intro w'
                                    go_simp
                                    with_reducible rfl
                                   rotate_left
                                   ·
                                    simp only [Act.put, List.setIfInBounds_toArray, List.set_cons_zero, List.set_cons_succ, i64_w, i32_w]
                                    rfl
                                   refine pure_ (i := 36) (N := some 250) (v := ?_) (a' := ?_) #[true, true, true, true, true, true, true, true, true, true, true, true, true, true, true, true, true, true, true, true, true, true, true, true, true, true, true, true, true, true, true, true, true, true, true, false, true, false, false, false, false, false, false, false, false, false, false, false, false, false, false, false, false] rfl rfl (any_of HT_.out (by kernel_rfl)) (fun _ _ _ h => h) (Or.inl ⟨by rfl, ?_⟩) ?_ ?_
                                   rotate_left
                                   ·
                                    intro w'
                                    go_simp
                                    with_reducible rfl
                                   rotate_left
                                   ·
                                    simp only [Act.put, List.setIfInBounds_toArray, List.set_cons_zero, List.set_cons_succ, i64_w, i32_w]
                                    rfl
                                   refine take_ (i := 35) (N := some 249) (v := ?_) (a' := ?_) #[true, true, true, true, true, true, true, true, true, true, true, true, true, true, true, true, true, true, true, true, true, true, true, true, true, true, true, true, true, true, true, true, true, true, true, true, true, false, false, false, false, false, false, false, false, false, false, false, false, false, false, false, false] rfl rfl (take_ofW HT_.out HW_.out (by kernel_rfl)) (fun _ _ _ h => h) (Or.inl ⟨by rfl, ?_⟩) hHeld ?_ ?_
                                   rotate_left
                                   ·
                                    rintro w' ⟨s0, s1, s2, s3, s4, s5, s6, s7, s8, s9, s10, s11⟩
                                    go_simp
                                    with_reducible rfl
                                   rotate_left
                                   ·
                                    simp only [Act.put, List.setIfInBounds_toArray, List.set_cons_zero, List.set_cons_succ, i64_w, i32_w]
                                    rfl
                                   refine pure_ (i := 37) (N := some 251) (v := ?_) (a' := ?_) #[true, true, true, true, true, true, true, true, true, true, true, true, true, true, true, true, true, true, true, true, true, true, true, true, true, true, true, true, true, true, true, true, true, true, true, true, true, true, false, false, false, false, false, false, false, false, false, false, false, false, false, false, false] rfl rfl (any_of HT_.out (by kernel_rfl)) (fun _ _ _ h => h) (Or.inl ⟨by rfl, ?_⟩) ?_ ?_
                                   rotate_left
                                   ·
                                    intro w'
                                    go_simp
                                    with_reducible rfl
                                   rotate_left
                                   ·
                                    simp only [Act.put, List.setIfInBounds_toArray, List.set_cons_zero, List.set_cons_succ, i64_w, i32_w]
                                    rfl
                                   refine take_ (i := 38) (N := some 252) (v := ?_) (a' := ?_) #[true, true, true, true, true, true, true, true, true, true, true, true, true, true, true, true, true, true, true, true, true, true, true, true, true, true, true, true, true, true, true, true, true, true, true, true, true, true, true, false, false, false, false, false, false, false, false, false, false, false, false, false, false] rfl rfl (take_ofW HT_.out HW_.out (by kernel_rfl)) (fun _ _ _ h => h) (Or.inl ⟨by rfl, ?_⟩) hHeld ?_ ?_
                                   rotate_left
                                   ·
                                    rintro w' ⟨s0, s1, s2, s3, s4, s5, s6, s7, s8, s9, s10, s11⟩
                                    go_simp
                                    with_reducible rfl
                                   rotate_left
                                   ·
                                    simp only [Act.put, List.setIfInBounds_toArray, List.set_cons_zero, List.set_cons_succ, i64_w, i32_w]
                                    rfl
                                   refine pure_ (i := 39) (N := some 253) (v := ?_) (a' := ?_) #[true, true, true, true, true, true, true, true, true, true, true, true, true, true, true, true, true, true, true, true, true, true, true, true, true, true, true, true, true, true, true, true, true, true, true, true, true, true, true, true, false, false, false, false, false, false, false, false, false, false, false, false, false] rfl rfl (any_of HT_.out (by kernel_rfl)) (fun _ _ _ h => h) (Or.inl ⟨by rfl, ?_⟩) ?_ ?_
                                   rotate_left
                                   ·
                                    intro w'
                                    go_simp
                                    with_reducible rfl
                                   rotate_left
                                   ·
                                    simp only [Act.put, List.setIfInBounds_toArray, List.set_cons_zero, List.set_cons_succ, i64_w, i32_w]
                                    rfl
                                   refine pure_ (i := 40) (N := some 254) (v := ?_) (a' := ?_) #[true, true, true, true, true, true, true, true, true, true, true, true, true, true, true, true, true, true, true, true, true, true, true, true, true, true, true, true, true, true, true, true, true, true, true, true, true, true, true, true, true, false, false, false, false, false, false, false, false, false, false, false, false] rfl rfl (any_of HT_.out (by kernel_rfl)) (fun _ _ _ h => h) (Or.inl ⟨by rfl, ?_⟩) ?_ ?_
                                   rotate_left
                                   ·
                                    intro w'
                                    go_simp
                                    with_reducible rfl
                                   rotate_left
                                   ·
                                    simp only [Act.put, List.setIfInBounds_toArray, List.set_cons_zero, List.set_cons_succ, i64_w, i32_w]
                                    rfl
                                   refine pure_ (i := 41) (N := some 255) (v := ?_) (a' := ?_) #[true, true, true, true, true, true, true, true, true, true, true, true, true, true, true, true, true, true, true, true, true, true, true, true, true, true, true, true, true, true, true, true, true, true, true, true, true, true, true, true, true, true, false, false, false, false, false, false, false, false, false, false, false] rfl rfl (any_of HT_.out (by kernel_rfl)) (fun _ _ _ h => h) (Or.inl ⟨by rfl, ?_⟩) ?_ ?_
                                   rotate_left
                                   ·
                                    intro w'
                                    go_simp
                                    with_reducible rfl
                                   rotate_left
                                   ·
                                    simp only [Act.put, List.setIfInBounds_toArray, List.set_cons_zero, List.set_cons_succ, i64_w, i32_w]
                                    rfl
                                   refine pure_ (i := 42) (N := some 256) (v := ?_) (a' := ?_) #[true, true, true, true, true, true, true, true, true, true, true, true, true, true, true, true, true, true, true, true, true, true, true, true, true, true, true, true, true, true, true, true, true, true, true, true, true, true, true, true, true, true, true, false, false, false, false, false, false, false, false, false, false] rfl rfl (any_of HT_.out (by kernel_rfl)) (fun _ _ _ h => h) (Or.inl ⟨by rfl, ?_⟩) ?_ ?_
                                   rotate_left
                                   ·
                                    intro w'
                                    go_simp
                                    with_reducible rfl
                                   rotate_left
                                   ·
                                    simp only [Act.put, List.setIfInBounds_toArray, List.set_cons_zero, List.set_cons_succ, i64_w, i32_w]
                                    rfl
                                   refine pure_ (i := 43) (N := some 257) (v := ?_) (a' := ?_) #[true, true, true, true, true, true, true, true, true, true, true, true, true, true, true, true, true, true, true, true, true, true, true, true, true, true, true, true, true, true, true, true, true, true, true, true, true, true, true, true, true, true, true, true, false, false, false, false, false, false, false, false, false] rfl rfl (any_of HT_.out (by kernel_rfl)) (fun _ _ _ h => h) (Or.inl ⟨by rfl, ?_⟩) ?_ ?_
                                   rotate_left
                                   ·
                                    intro w'
                                    go_simp
                                    with_reducible rfl
                                   rotate_left
                                   ·
                                    simp only [Act.put, List.setIfInBounds_toArray, List.set_cons_zero, List.set_cons_succ, i64_w, i32_w]
                                    rfl
                                   refine pure_ (i := 44) (N := some 258) (v := ?_) (a' := ?_) #[true, true, true, true, true, true, true, true, true, true, true, true, true, true, true, true, true, true, true, true, true, true, true, true, true, true, true, true, true, true, true, true, true, true, true, true, true, true, true, true, true, true, true, true, true, false, false, false, false, false, false, false, false] rfl rfl (any_of HT_.out (by kernel_rfl)) (fun _ _ _ h => h) (Or.inl ⟨by rfl, ?_⟩) ?_ ?_
                                   rotate_left
                                   ·
                                    intro w'
                                    go_simp
                                    with_reducible rfl
                                   rotate_left
                                   ·
                                    simp only [Act.put, List.setIfInBounds_toArray, List.set_cons_zero, List.set_cons_succ, i64_w, i32_w]
                                    rfl
                                   refine pure_ (i := 46) (N := some 260) (v := ?_) (a' := ?_) #[true, true, true, true, true, true, true, true, true, true, true, true, true, true, true, true, true, true, true, true, true, true, true, true, true, true, true, true, true, true, true, true, true, true, true, true, true, true, true, true, true, true, true, true, true, false, true, false, false, false, false, false, false] rfl rfl (any_of HT_.out (by kernel_rfl)) (fun _ _ _ h => h) (Or.inl ⟨by rfl, ?_⟩) ?_ ?_
                                   rotate_left
                                   ·
                                    intro w'
                                    go_simp
                                    with_reducible rfl
                                   rotate_left
                                   ·
                                    simp only [Act.put, List.setIfInBounds_toArray, List.set_cons_zero, List.set_cons_succ, i64_w, i32_w]
                                    rfl
                                   refine pure_ (i := 49) (N := some 263) (v := ?_) (a' := ?_) #[true, true, true, true, true, true, true, true, true, true, true, true, true, true, true, true, true, true, true, true, true, true, true, true, true, true, true, true, true, true, true, true, true, true, true, true, true, true, true, true, true, true, true, true, true, false, true, false, false, true, false, false, false] rfl rfl (any_of HT_.out (by kernel_rfl)) (fun _ _ _ h => h) (Or.inl ⟨by rfl, ?_⟩) ?_ ?_
                                   rotate_left
                                   ·
                                    intro w'
                                    go_simp
                                    with_reducible rfl
                                   rotate_left
                                   ·
                                    simp only [Act.put, List.setIfInBounds_toArray, List.set_cons_zero, List.set_cons_succ, i64_w, i32_w]
                                    rfl
                                   refine pure_ (i := 50) (N := some 264) (v := ?_) (a' := ?_) #[true, true, true, true, true, true, true, true, true, true, true, true, true, true, true, true, true, true, true, true, true, true, true, true, true, true, true, true, true, true, true, true, true, true, true, true, true, true, true, true, true, true, true, true, true, false, true, false, false, true, true, false, false] rfl rfl (any_of HT_.out (by kernel_rfl)) (fun _ _ _ h => h) (Or.inl ⟨by rfl, ?_⟩) ?_ ?_
                                   rotate_left
                                   ·
                                    intro w'
                                    go_simp
                                    with_reducible rfl
                                   rotate_left
                                   ·
                                    simp only [Act.put, List.setIfInBounds_toArray, List.set_cons_zero, List.set_cons_succ, i64_w, i32_w]
                                    rfl
                                   refine take_ (i := 45) (N := some 259) (v := ?_) (a' := ?_) #[true, true, true, true, true, true, true, true, true, true, true, true, true, true, true, true, true, true, true, true, true, true, true, true, true, true, true, true, true, true, true, true, true, true, true, true, true, true, true, true, true, true, true, true, true, true, true, false, false, true, true, false, false] rfl rfl (take_ofW HT_.out HW_.out (by kernel_rfl)) (fun _ _ _ h => h) (Or.inl ⟨by rfl, ?_⟩) hHeld ?_ ?_
                                   rotate_left
                                   ·
                                    rintro w' ⟨s0, s1, s2, s3, s4, s5, s6, s7, s8, s9, s10, s11⟩
                                    go_simp
                                    with_reducible rfl
                                   rotate_left
                                   ·
                                    simp only [Act.put, List.setIfInBounds_toArray, List.set_cons_zero, List.set_cons_succ, i64_w, i32_w]
                                    rfl
                                   refine pure_ (i := 47) (N := some 261) (v := ?_) (a' := ?_) #[true, true, true, true, true, true, true, true, true, true, true, true, true, true, true, true, true, true, true, true, true, true, true, true, true, true, true, true, true, true, true, true, true, true, true, true, true, true, true, true, true, true, true, true, true, true, true, true, false, true, true, false, false] rfl rfl (any_of HT_.out (by kernel_rfl)) (fun _ _ _ h => h) (Or.inl ⟨by rfl, ?_⟩) ?_ ?_
                                   rotate_left
                                   ·
                                    intro w'
                                    go_simp
                                    with_reducible rfl
                                   rotate_left
                                   ·
                                    simp only [Act.put, List.setIfInBounds_toArray, List.set_cons_zero, List.set_cons_succ, i64_w, i32_w]
                                    rfl
                                   refine take_ (i := 48) (N := some 262) (v := ?_) (a' := ?_) #[true, true, true, true, true, true, true, true, true, true, true, true, true, true, true, true, true, true, true, true, true, true, true, true, true, true, true, true, true, true, true, true, true, true, true, true, true, true, true, true, true, true, true, true, true, true, true, true, true, true, true, false, false] rfl rfl (take_ofW HT_.out HW_.out (by kernel_rfl)) (fun _ _ _ h => h) (Or.inl ⟨by rfl, ?_⟩) hHeld ?_ ?_
                                   rotate_left
                                   ·
                                    rintro w' ⟨s0, s1, s2, s3, s4, s5, s6, s7, s8, s9, s10, s11⟩
                                    go_simp
                                    with_reducible rfl
                                   rotate_left
                                   ·
                                    simp only [Act.put, List.setIfInBounds_toArray, List.set_cons_zero, List.set_cons_succ, i64_w, i32_w]
                                    rfl
                                   refine pure_ (i := 51) (N := some 265) (v := ?_) (a' := ?_) #[true, true, true, true, true, true, true, true, true, true, true, true, true, true, true, true, true, true, true, true, true, true, true, true, true, true, true, true, true, true, true, true, true, true, true, true, true, true, true, true, true, true, true, true, true, true, true, true, true, true, true, true, false] rfl rfl (any_of HT_.out (by kernel_rfl)) (fun _ _ _ h => h) (Or.inl ⟨by rfl, ?_⟩) ?_ ?_
                                   rotate_left
                                   ·
                                    intro w'
                                    go_simp
                                    with_reducible rfl
                                   rotate_left
                                   ·
                                    simp only [Act.put, List.setIfInBounds_toArray, List.set_cons_zero, List.set_cons_succ, i64_w, i32_w]
                                    rfl
                                   refine pure_ (i := 52) (N := some 266) (v := ?_) (a' := ?_) #[true, true, true, true, true, true, true, true, true, true, true, true, true, true, true, true, true, true, true, true, true, true, true, true, true, true, true, true, true, true, true, true, true, true, true, true, true, true, true, true, true, true, true, true, true, true, true, true, true, true, true, true, true] rfl rfl (any_of HT_.out (by kernel_rfl)) (fun _ _ _ h => h) (Or.inl ⟨by rfl, ?_⟩) ?_ ?_
                                   rotate_left
                                   ·
                                    intro w'
                                    go_simp
                                    with_reducible rfl
                                   rotate_left
                                   ·
                                    simp only [Act.put, List.setIfInBounds_toArray, List.set_cons_zero, List.set_cons_succ, i64_w, i32_w]
                                    rfl
                                   refine done_ (done_of HT_.out (by kernel_rfl)) ?_
                                   try go_wp2
                                   (try simp only [← hl23_5])
                                   go_roundg k5
                                   case measure => have := HJ2.out; have := HJ16.out; have := HK3.out; have := HK4.out; have := HK5.out; omega
                                   case rel => exact ⟨(wrap64 (x27_5 + 1)), (by first | rfl | (simp; done) | (simp [*]; done)), H', ⟨by have := HJ2.out; have := HJ16.out; have := HK3.out; have := HK4.out; have := HK5.out; omega⟩, ⟨by (try simp only [hl23_5]); (with_reducible repeat (first | apply Kd.S_alloc | apply Kd.S_drewN | apply Kd.S_drew)); exact HO_6.out⟩, ⟨by (try simp only [hl23_5]); (with_reducible repeat (first | apply Kd.S_alloc | apply Kd.S_drewN | apply Kd.S_drew)); exact HO_9.out⟩, ⟨by (try simp only [hl23_5]); (with_reducible repeat (first | apply Kd.R_alloc | apply Kd.R_drewN | apply Kd.R_drew)); exact HO_13.out⟩, ⟨by (try simp only [hl23_5]); (with_reducible repeat (first | apply Kd.R_alloc | apply Kd.R_drewN | apply Kd.R_drew)); exact HO_17.out⟩, ⟨by (try simp only [hl23_5]); (with_reducible repeat (first | apply Kd.R_alloc | apply Kd.R_drewN | apply Kd.R_drew)); exact HO_23.out⟩, ⟨by repeat (first | (with_reducible exact HR305_0.out) | (with_reducible refine Kd.C_alloc ?_ _) | (with_reducible refine Kd.C_drewN ?_ _) | (with_reducible refine Kd.C_drew ?_) | exact HR305_0.out)⟩, ⟨by repeat (first | (with_reducible exact HR308_0.out) | (with_reducible refine Kd.C_alloc ?_ _) | (with_reducible refine Kd.C_drewN ?_ _) | (with_reducible refine Kd.C_drew ?_) | exact HR308_0.out)⟩, ⟨by repeat (first | (with_reducible first | exact HB.out | apply below_alloc | apply pw_below_drewN | apply below_drew1) | exact HB.out)⟩⟩
                               ·
                                rw [if_neg c138] at H
                                exact absurd H (by simp)
                              ·
                               rw [if_neg c137] at H
                               exact absurd H (by simp)
                             ·
                              rw [if_neg c136] at H
                              exact absurd H (by simp)
                            ·
                             rw [if_neg c135] at H
                             exact absurd H (by simp)
                           ·
                            rw [if_neg c134] at H
                            exact absurd H (by simp)
                          ·
                           rw [if_neg c133] at H
                           exact absurd H (by simp)
                         ·
                          rw [if_neg c132] at H
                          exact absurd H (by simp)
                        ·
                         rw [if_neg c131] at H
                         exact absurd H (by simp)
                       ·
                        rw [if_neg c130] at H
                        exact absurd H (by simp)
                      ·
                       rw [if_neg c129] at H
                       have c129b0 : decide (x27_5 < t266) = false := decide_eq_false c129
                       clear c129
                       have H' := Aside0.mk H
                       clear H
                       go_wp2
                       (try simp only [← hl23_5])
                       go_roundg k5
                       case measure => have := HJ2.out; have := HJ16.out; have := HK3.out; have := HK4.out; have := HK5.out; omega
                       case rel => exact ⟨(y310), ((wrap64 (x25_4 + (rd (rd_L2 t274 x24_3) x26_4)))), (wrap64 (x26_4 + 1)), (by first | rfl | (simp; done) | (simp [*]; done)), (by first | rfl | (simp; done) | (simp [*]; done)), H', ⟨by have := HJ2.out; have := HJ16.out; have := HK3.out; have := HK4.out; have := HK5.out; omega⟩, ⟨by (try simp only [hl23_5]); (with_reducible repeat (first | apply Kd.S_alloc | apply Kd.S_drewN | apply Kd.S_drew)); exact HO_6.out⟩, ⟨by (try simp only [hl23_5]); (with_reducible repeat (first | apply Kd.S_alloc | apply Kd.S_drewN | apply Kd.S_drew)); exact HO_9.out⟩, ⟨by (try simp only [hl23_5]); (with_reducible repeat (first | apply Kd.R_alloc | apply Kd.R_drewN | apply Kd.R_drew)); exact HO_13.out⟩, ⟨by (try simp only [hl23_5]); (with_reducible repeat (first | apply Kd.R_alloc | apply Kd.R_drewN | apply Kd.R_drew)); exact HO_17.out⟩, ⟨by (try simp only [hl23_5]); (with_reducible repeat (first | apply Kd.R_alloc | apply Kd.R_drewN | apply Kd.R_drew)); exact HO_23.out⟩, ⟨by repeat (first | (with_reducible first | exact HB.out | apply below_alloc | apply pw_below_drewN | apply below_drew1) | exact HB.out)⟩⟩
                   ·
                    rw [if_neg c124] at H
                    exact absurd H (by simp)
                  ·
                   rw [if_neg c123] at H
                   exact absurd H (by simp)
                 ·
                  rw [if_neg c122] at H
                  exact absurd H (by simp)
                ·
                 rw [if_neg c121] at H
                 exact absurd H (by simp)
               ·
                rw [if_neg c120] at H
                exact absurd H (by simp)
              ·
               rw [if_neg c119] at H
               have c119b0 : decide (x26_4 < t266) = false := decide_eq_false c119
               clear c119
               by_cases c146 : x25_4 = (wrap64 (t266 * (wrap64 (t266 + 1))))
               ·
                rw [if_pos c146] at H
                have c146b0 : (x25_4 == (wrap64 (t266 * (wrap64 (t266 + 1))))) = true := beq_iff_eq.mpr c146
                have c146b1 : (x25_4 != (wrap64 (t266 * (wrap64 (t266 + 1))))) = false := bne_eq_false_iff_eq.mpr c146
                clear c146
                have H' := Aside0.mk H
                clear H
                go_wp2
                go_roundg k4
                case measure => have := HJ2.out; have := HJ16.out; have := HK3.out; have := HK4.out; omega
                case rel => exact ⟨(x23_4), (wrap64 (x24_3 + 1)), (by first | rfl | (simp; done) | (simp [*]; done)), H', ⟨by have := HJ2.out; have := HJ16.out; have := HK3.out; have := HK4.out; omega⟩, ⟨by (with_reducible repeat (first | apply Kd.S_alloc | apply Kd.S_drewN | apply Kd.S_drew)); exact HO_6.out⟩, ⟨by (with_reducible repeat (first | apply Kd.S_alloc | apply Kd.S_drewN | apply Kd.S_drew)); exact HO_9.out⟩, ⟨by (with_reducible repeat (first | apply Kd.R_alloc | apply Kd.R_drewN | apply Kd.R_drew)); exact HO_13.out⟩, ⟨by (with_reducible repeat (first | apply Kd.R_alloc | apply Kd.R_drewN | apply Kd.R_drew)); exact HO_17.out⟩, ⟨by (with_reducible repeat (first | apply Kd.R_alloc | apply Kd.R_drewN | apply Kd.R_drew)); exact HO_23.out⟩, ⟨by repeat (first | (with_reducible first | exact HB.out | apply below_alloc | apply pw_below_drewN | apply below_drew1) | exact HB.out)⟩⟩
               ·
                rw [if_neg c146] at H
                have c146b0 : (x25_4 == (wrap64 (t266 * (wrap64 (t266 + 1))))) = false := beq_eq_false_iff_ne.mpr c146
                have c146b1 : (x25_4 != (wrap64 (t266 * (wrap64 (t266 + 1))))) = true := bne_iff_ne.mpr c146
                exact absurd (Option.some.inj (H.trans (congrArg some HT.out))) Bool.false_ne_true
           ·
            rw [if_neg c117] at H
            have c117b0 : decide (x24_3 < (t274.length : Int)) = false := decide_eq_false c117
            clear c117
            replace H := Option.bind_eq_some_iff.mp H
            obtain ⟨t323, A1470, H⟩ := H
            replace H : (if t323 = true then (laws_FnRanks.l3 k3 t266 t267 t282 t290 t296 1) else (some false)) = some r := H
            have A147 := Aside0.mk A1470
            clear A1470
            by_cases c148 : t323 = true
            ·
             subst c148
             have H1 : (laws_FnRanks.l3 k3 t266 t267 t282 t290 t296 1) = some r := by rw [if_pos rfl] at H; exact H
             clear H
             have H := H1
             clear H1
             have H' := Aside0.mk H
             clear H
             obtain ⟨Ao149, co149, eo149⟩ := Kd.S_slice HO_9.out
             subst eo149
             obtain ⟨Ao150, co150, eo150⟩ := Kd.R_slice HO_23.out
             subst eo150
             obtain ⟨Ao151, co151, eo151⟩ := Kd.R_slice HO_13.out
             subst eo151
             go_wp2_with (first | ((with_reducible refine gate_callee (f := 28) rfl ?_); refine goesL_ (some 275) rfl rfl Try.func28 (by kernel_rfl) rfl #[.slice Ao150 x23_3.length co150, .slice Ao151 t282.length co151] rfl (by (try simp only [List.map_toArray, List.map_cons, List.map_nil]); first | done | rfl | (simp only [List.length_drop, List.length_take]; rfl)) ?_; (with_reducible refine (spec_SameNumbers.calls k3 _ _ x23_3 _ _ t282 true _ ?side1 ?side2 ?side3 ?side4 A147.out).mono ?_); (case side1 => repeat (first | exact (Kd.R_reads' HO_23.out).2.2 | (with_reducible refine Kd.C_alloc ?_ _) | (with_reducible refine Kd.C_drewN ?_ _) | (with_reducible refine Kd.C_drew ?_))); (case side2 => exact (Kd.R_reads' HO_23.out).2.1); (case side3 => repeat (first | exact (Kd.R_reads' HO_13.out).2.2 | (with_reducible refine Kd.C_alloc ?_ _) | (with_reducible refine Kd.C_drewN ?_ _) | (with_reducible refine Kd.C_drew ?_))); (case side4 => exact (Kd.R_reads' HO_13.out).2.1); rintro e w' ⟨rfl, ⟨nd, rfl⟩⟩; refine ⟨_, rfl, ?_⟩))
             go_loopg [28] k3 (fun kq v28 w' => ∃ (x28_4 : Int), v28 = .int .i64 x28_4 ∧ Aside0 (laws_FnRanks.l3 kq t266 t267 t282 t290 t296 x28_4 = some r) ∧ Aside0 (kq ≤ k3) ∧ Aside0 (Kd.S (Kd.slice 2 (Kd.int .i64)) 22 w' w.heap.size (fun k_ => some k_ ≠ ((.slice Ao151 t282.length co151) : Value).ownBlock ∧ some k_ ≠ (v292 : Value).ownBlock) (.slice Ao19 t267.length co19) t267) ∧ Aside0 (Kd.R (Kd.int .i64) 2 w' w.heap.size (fun k_ => some k_ ≠ (v292 : Value).ownBlock) (.slice Ao151 t282.length co151) t282) ∧ Aside0 (Kd.R (Kd.int .i64) 2 w' w.heap.size (fun k_ => some k_ ≠ ((.slice Ao151 t282.length co151) : Value).ownBlock) v292 t290) ∧ Aside0 (Below w.heap.size w w'))
             case atStart => exact ⟨(1), (by first | rfl | (simp; done) | (simp [*]; done)), H', ⟨Nat.le_refl _⟩, ⟨by (with_reducible repeat (first | apply Kd.S_alloc | apply Kd.S_drewN | apply Kd.S_drew)); exact Kd.S_mono HO_6.out (fun _ hk => ⟨hk.2.1, hk.2.2.1⟩)⟩, ⟨by (with_reducible repeat (first | apply Kd.R_alloc | apply Kd.R_drewN | apply Kd.R_drew)); exact Kd.R_mono HO_13.out (fun _ hk => hk.1)⟩, ⟨by (with_reducible repeat (first | apply Kd.R_alloc | apply Kd.R_drewN | apply Kd.R_drew)); exact Kd.R_mono HO_17.out (fun _ hk => hk.1)⟩, ⟨by repeat (first | (with_reducible first | exact HB.out | apply below_alloc | apply pw_below_drewN | apply below_drew1) | exact HB.out)⟩⟩
             case round => as_aux_lemma =>
              clear H'
              try clear c1
              try clear c2
              try clear p2
              try clear c3
              try clear p3
              try clear q3
              try clear hx3
              try clear p6
              try clear c11
              try clear c12
              try clear c13
              try clear c14
              try clear c28
              try clear c31
              try clear p31
              try clear q31
              try clear hx31
              try clear c32
              try clear p32
              try clear q32
              try clear hx32
              try clear p64
              try clear c117
              try clear c117b0
              try clear c119
              try clear c119b0
              try clear c120
              try clear c121
              try clear c122
              try clear c123
              try clear c124
              try clear c129
              try clear c129b0
              try clear c130
              try clear c131
              try clear c132
              try clear c133
              try clear c134
              try clear c135
              try clear c136
              try clear c137
              try clear c138
              try clear c146
              try clear c146b0
              try clear c146b1
              try clear c148
              try clear hx311_0
              try clear hx312_0
              try clear hx313_0
              try clear hx314_0
              try clear hx315_0
              try clear hx316_0
              try clear hx317_0
              try clear hx318_0
              try clear hx319_0
              try clear hx320_0
              try clear hx321_0
              try clear hx322_0
              try clear p317
              try clear p318
              try clear p319
              try clear p320
              try clear p321
              try clear p322
              try clear q317
              try clear q318
              try clear q319
              try clear q320
              try clear q321
              try clear q322
              obtain ⟨x28_4, rfl, HA, HK4, HO_6, HO_13, HO_17, HB⟩ := hrel
              cases gk with
              | zero => exact absurd HA.out (by simp [laws_FnRanks.l3])
              | succ k4 =>
               have H := HA.out
               clear HA
               simp only [laws_FnRanks.l3] at H
               by_cases c152 : x28_4 < t266
               ·
                rw [if_pos c152] at H
                have c152b0 : decide (x28_4 < t266) = true := decide_eq_true c152
                clear c152
                obtain ⟨ji153, hji153⟩ : ∃ j_ : Int, (wrap64 (x28_4 - 1)) = j_ := ⟨_, rfl⟩
                replace H : (if 0 ≤ (ji153) then (if (ji153) < (t290.length : Int) then (if 0 ≤ x28_4 then (if x28_4 < (t290.length : Int) then (if 0 ≤ (rd t290 (ji153)) then (if (rd t290 (ji153)) < (t282.length : Int) then (if 0 ≤ (rd t290 x28_4) then (if (rd t290 x28_4) < (t282.length : Int) then (if (rd t282 (rd t290 (ji153))) > (rd t282 (rd t290 x28_4)) then (some false) else (if (rd t282 (rd t290 (ji153))) = (rd t282 (rd t290 x28_4)) then (if (rd t290 (ji153)) > (rd t290 x28_4) then (some false) else (laws_FnRanks.l3 k4 t266 t267 t282 t290 t296 (wrap64 (x28_4 + 1)))) else (laws_FnRanks.l3 k4 t266 t267 t282 t290 t296 (wrap64 (x28_4 + 1))))) else (none)) else (none)) else (none)) else (none)) else (none)) else (none)) else (none)) else (none)) = some r := by first | (rw [hji153] at H; exact H) | (simp only [hji153] at H ⊢; exact H)
                have hji153w : (IntKind.i64.wrap (x28_4 - 1)) = ji153 := (i64_w _).trans hji153
                by_cases c154 : 0 ≤ (ji153)
                ·
                 rw [if_pos c154] at H
                 have c154b0 : decide (0 ≤ (ji153)) = true := decide_eq_true c154
                 clear c154
                 by_cases c155 : (ji153) < (t290.length : Int)
                 ·
                  rw [if_pos c155] at H
                  have c155b0 : decide ((ji153) < (t290.length : Int)) = true := decide_eq_true c155
                  clear c155
                  by_cases c156 : 0 ≤ x28_4
                  ·
                   rw [if_pos c156] at H
                   have c156b0 : decide (0 ≤ x28_4) = true := decide_eq_true c156
                   clear c156
                   by_cases c157 : x28_4 < (t290.length : Int)
                   ·
                    rw [if_pos c157] at H
                    have c157b0 : decide (x28_4 < (t290.length : Int)) = true := decide_eq_true c157
                    clear c157
                    by_cases c158 : 0 ≤ (rd t290 (ji153))
                    ·
                     rw [if_pos c158] at H
                     have c158b0 : decide (0 ≤ (rd t290 (ji153))) = true := decide_eq_true c158
                     clear c158
                     by_cases c159 : (rd t290 (ji153)) < (t282.length : Int)
                     ·
                      rw [if_pos c159] at H
                      have c159b0 : decide ((rd t290 (ji153)) < (t282.length : Int)) = true := decide_eq_true c159
                      clear c159
                      by_cases c160 : 0 ≤ (rd t290 x28_4)
                      ·
                       rw [if_pos c160] at H
                       have c160b0 : decide (0 ≤ (rd t290 x28_4)) = true := decide_eq_true c160
                       clear c160
                       by_cases c161 : (rd t290 x28_4) < (t282.length : Int)
                       ·
                        rw [if_pos c161] at H
                        have c161b0 : decide ((rd t290 x28_4) < (t282.length : Int)) = true := decide_eq_true c161
                        clear c161
                        by_cases c162 : (rd t282 (rd t290 (ji153))) > (rd t282 (rd t290 x28_4))
                        ·
                         rw [if_pos c162] at H
                         have c162b0 : decide ((rd t282 (rd t290 x28_4)) < (rd t282 (rd t290 (ji153)))) = true := decide_eq_true c162
                         clear c162
                         exact absurd (Option.some.inj (H.trans (congrArg some HT.out))) Bool.false_ne_true
                        ·
                         rw [if_neg c162] at H
                         have c162b0 : decide ((rd t282 (rd t290 x28_4)) < (rd t282 (rd t290 (ji153)))) = false := decide_eq_false c162
                         clear c162
                         by_cases c165 : (rd t282 (rd t290 (ji153))) = (rd t282 (rd t290 x28_4))
                         ·
                          rw [if_pos c165] at H
                          have c165b0 : ((rd t282 (rd t290 (ji153))) == (rd t282 (rd t290 x28_4))) = true := beq_iff_eq.mpr c165
                          have c165b1 : ((rd t282 (rd t290 (ji153))) != (rd t282 (rd t290 x28_4))) = false := bne_eq_false_iff_eq.mpr c165
                          clear c165
                          by_cases c166 : (rd t290 (ji153)) > (rd t290 x28_4)
                          ·
                           rw [if_pos c166] at H
                           have c166b0 : decide ((rd t290 x28_4) < (rd t290 (ji153))) = true := decide_eq_true c166
                           clear c166
                           exact absurd (Option.some.inj (H.trans (congrArg some HT.out))) Bool.false_ne_true
                          ·
                           rw [if_neg c166] at H
                           have c166b0 : decide ((rd t290 x28_4) < (rd t290 (ji153))) = false := decide_eq_false c166
                           clear c166
                           have H' := Aside0.mk H
                           clear H
                           obtain ⟨Ao169, co169, eo169⟩ := Kd.R_slice HO_17.out
                           subst eo169
                           have p324 : 0 ≤ ((ji153) : Int) := of_decide_eq_true (by first | (with_reducible assumption) | assumption)
                           have q324 : (ji153) < (t290.length : Int) := of_decide_eq_true (by first | (with_reducible assumption) | assumption)
                           obtain ⟨ad324, e324, hx324_0⟩ := Kd.at_int (Kd.R_reads' HO_17.out).2.2 (ji153) p324 q324
                           cases e324
                           replace p324 := eq_true p324
                           replace q324 := eq_true q324
                           have p325 : 0 ≤ (x28_4 : Int) := of_decide_eq_true (by first | (with_reducible assumption) | assumption)
                           have q325 : x28_4 < (t290.length : Int) := of_decide_eq_true (by first | (with_reducible assumption) | assumption)
                           obtain ⟨ad325, e325, hx325_0⟩ := Kd.at_int (Kd.R_reads' HO_17.out).2.2 x28_4 p325 q325
                           obtain rfl : ad324 = ad325 := (by injection e325)
                           replace p325 := eq_true p325
                           replace q325 := eq_true q325
                           try go_wp2
                           have n0_ := Aside0.mk (Kd.S_drew HO_6.out)
                           have n1_ := Aside0.mk (Kd.R_drew HO_13.out)
                           have n2_ := Aside0.mk (Kd.R_drew HO_17.out)
                           have n3_ := Aside0.mk (below_drew1 HB.out)
                           clear HO_6
                           clear HO_13
                           clear HO_17
                           clear HB
                           have HO_6 := n0_
                           have HO_13 := n1_
                           have HO_17 := n2_
                           have HB := n3_
                           clear n0_ n1_ n2_ n3_
                           have p326 : 0 ≤ ((rd t290 (ji153)) : Int) := of_decide_eq_true (by first | (with_reducible assumption) | assumption)
                           have q326 : (rd t290 (ji153)) < (t282.length : Int) := of_decide_eq_true (by first | (with_reducible assumption) | assumption)
                           obtain ⟨ad326, e326, hx326_0⟩ := Kd.at_int (Kd.R_reads' HO_13.out).2.2 (rd t290 (ji153)) p326 q326
                           cases e326
                           replace p326 := eq_true p326
                           replace q326 := eq_true q326
                           have p327 : 0 ≤ ((rd t290 x28_4) : Int) := of_decide_eq_true (by first | (with_reducible assumption) | assumption)
                           have q327 : (rd t290 x28_4) < (t282.length : Int) := of_decide_eq_true (by first | (with_reducible assumption) | assumption)
                           obtain ⟨ad327, e327, hx327_0⟩ := Kd.at_int (Kd.R_reads' HO_13.out).2.2 (rd t290 x28_4) p327 q327
                           obtain rfl : ad326 = ad327 := (by injection e327)
                           replace p327 := eq_true p327
                           replace q327 := eq_true q327
                           have p328 : 0 ≤ ((rd t290 (ji153)) : Int) := of_decide_eq_true (by first | (with_reducible assumption) | assumption)
                           have q328 : (rd t290 (ji153)) < (t282.length : Int) := of_decide_eq_true (by first | (with_reducible assumption) | assumption)
                           obtain ⟨ad328, e328, hx328_0⟩ := Kd.at_int (Kd.R_reads' HO_13.out).2.2 (rd t290 (ji153)) p328 q328
                           obtain rfl : ad326 = ad328 := (by injection e328)
                           replace p328 := eq_true p328
                           replace q328 := eq_true q328
                           have p329 : 0 ≤ ((rd t290 x28_4) : Int) := of_decide_eq_true (by first | (with_reducible assumption) | assumption)
                           have q329 : (rd t290 x28_4) < (t282.length : Int) := of_decide_eq_true (by first | (with_reducible assumption) | assumption)
                           obtain ⟨ad329, e329, hx329_0⟩ := Kd.at_int (Kd.R_reads' HO_13.out).2.2 (rd t290 x28_4) p329 q329
                           obtain rfl : ad326 = ad329 := (by injection e329)
                           replace p329 := eq_true p329
                           replace q329 := eq_true q329
                           refine start_ (n := 25) (S := fun w' => w'.cell? (ad326.add ((rd t290 (ji153))).toNat) = some (.int .i64 (rd t282 (rd t290 (ji153)))) ∧ w'.cell? (ad326.add ((rd t290 x28_4)).toNat) = some (.int .i64 (rd t282 (rd t290 x28_4))) ∧ w'.cell? (ad326.add ((rd t290 (ji153))).toNat) = some (.int .i64 (rd t282 (rd t290 (ji153)))) ∧ w'.cell? (ad326.add ((rd t290 x28_4)).toNat) = some (.int .i64 (rd t282 (rd t290 x28_4)))) (ds := []) #[false, false, false, false, false, false, false, false, false, false, false, false, false, false, false, false, false, false, false, false, false, false, false, false, false] (by kernel_rfl) rfl rfl ⟨hx326_0, hx327_0, hx328_0, hx329_0⟩ (fun hHeld => ?_); refine with_tabW laws_FnRanks.tab38 laws_FnRanks.bits38 (fun HT_ HW_ => ?_)
                           generalize wr.drew = w170 at HO_6 HO_13 HO_17 HB hx326_0 hx327_0 hx328_0 hx329_0 hHeld ⊢
                           refine pure_ (i := 0) (N := some 291) (v := ?_) (a' := ?_) #[true, false, false, false, false, false, false, false, false, false, false, false, false, false, false, false, false, false, false, false, false, false, false, false, false] rfl rfl (any_of HT_.out (by kernel_rfl)) (fun _ _ _ h => h) (Or.inl ⟨by rfl, ?_⟩) ?_ ?_
                           rotate_left
                           ·
                            intro w'
                            go_simp
                            with_reducible rfl
                           rotate_left
                           ·
                            simp only [Act.put, List.setIfInBounds_toArray, List.set_cons_zero, List.set_cons_succ, i64_w, i32_w]
                            rfl
                           refine pure_ (i := 1) (N := some 292) (v := ?_) (a' := ?_) #[true, true, false, false, false, false, false, false, false, false, false, false, false, false, false, false, false, false, false, false, false, false, false, false, false] rfl rfl (any_of HT_.out (by kernel_rfl)) (fun _ _ _ h => h) (Or.inl ⟨by rfl, ?_⟩) ?_ ?_
                           rotate_left
                           ·
                            intro w'
                            go_simp
                            with_reducible rfl
                           rotate_left
                           ·
                            simp only [Act.put, List.setIfInBounds_toArray, List.set_cons_zero, List.set_cons_succ, i64_w, i32_w]
                            rfl
                           refine pure_ (i := 2) (N := some 293) (v := ?_) (a' := ?_) #[true, true, true, false, false, false, false, false, false, false, false, false, false, false, false, false, false, false, false, false, false, false, false, false, false] rfl rfl (any_of HT_.out (by kernel_rfl)) (fun _ _ _ h => h) (Or.inl ⟨by rfl, ?_⟩) ?_ ?_
                           rotate_left
                           ·
                            intro w'
                            go_simp
                            with_reducible rfl
                           rotate_left
                           ·
                            simp only [Act.put, List.setIfInBounds_toArray, List.set_cons_zero, List.set_cons_succ, i64_w, i32_w]
                            rfl
                           refine pure_ (i := 4) (N := some 295) (v := ?_) (a' := ?_) #[true, true, true, false, true, false, false, false, false, false, false, false, false, false, false, false, false, false, false, false, false, false, false, false, false] rfl rfl (any_of HT_.out (by kernel_rfl)) (fun _ _ _ h => h) (Or.inl ⟨by rfl, ?_⟩) ?_ ?_
                           rotate_left
                           ·
                            intro w'
                            go_simp
                            with_reducible rfl
                           rotate_left
                           ·
                            simp only [Act.put, List.setIfInBounds_toArray, List.set_cons_zero, List.set_cons_succ, i64_w, i32_w]
                            rfl
                           refine pure_ (i := 5) (N := some 296) (v := ?_) (a' := ?_) #[true, true, true, false, true, true, false, false, false, false, false, false, false, false, false, false, false, false, false, false, false, false, false, false, false] rfl rfl (any_of HT_.out (by kernel_rfl)) (fun _ _ _ h => h) (Or.inl ⟨by rfl, ?_⟩) ?_ ?_
                           rotate_left
                           ·
                            intro w'
                            go_simp
                            with_reducible rfl
                           rotate_left
                           ·
                            simp only [Act.put, List.setIfInBounds_toArray, List.set_cons_zero, List.set_cons_succ, i64_w, i32_w]
                            rfl
                           refine pure_ (i := 6) (N := some 297) (v := ?_) (a' := ?_) #[true, true, true, false, true, true, true, false, false, false, false, false, false, false, false, false, false, false, false, false, false, false, false, false, false] rfl rfl (any_of HT_.out (by kernel_rfl)) (fun _ _ _ h => h) (Or.inl ⟨by rfl, ?_⟩) ?_ ?_
                           rotate_left
                           ·
                            intro w'
                            go_simp
                            with_reducible rfl
                           rotate_left
                           ·
                            simp only [Act.put, List.setIfInBounds_toArray, List.set_cons_zero, List.set_cons_succ, i64_w, i32_w]
                            rfl
                           refine take_ (i := 3) (N := some 294) (v := ?_) (a' := ?_) #[true, true, true, true, true, true, true, false, false, false, false, false, false, false, false, false, false, false, false, false, false, false, false, false, false] rfl rfl (take_ofW HT_.out HW_.out (by kernel_rfl)) (fun _ _ _ h => h) (Or.inl ⟨by rfl, ?_⟩) hHeld ?_ ?_
                           rotate_left
                           ·
                            rintro w' ⟨s0, s1, s2, s3⟩
                            go_simp
                            with_reducible rfl
                           rotate_left
                           ·
                            simp only [Act.put, List.setIfInBounds_toArray, List.set_cons_zero, List.set_cons_succ, i64_w, i32_w]
                            rfl
                           refine take_ (i := 7) (N := some 298) (v := ?_) (a' := ?_) #[true, true, true, true, true, true, true, true, false, false, false, false, false, false, false, false, false, false, false, false, false, false, false, false, false] rfl rfl (take_ofW HT_.out HW_.out (by kernel_rfl)) (fun _ _ _ h => h) (Or.inl ⟨by rfl, ?_⟩) hHeld ?_ ?_
                           rotate_left
                           ·
                            rintro w' ⟨s0, s1, s2, s3⟩
                            go_simp
                            with_reducible rfl
                           rotate_left
                           ·
                            simp only [Act.put, List.setIfInBounds_toArray, List.set_cons_zero, List.set_cons_succ, i64_w, i32_w]
                            rfl
                           refine pure_ (i := 8) (N := some 299) (v := ?_) (a' := ?_) #[true, true, true, true, true, true, true, true, true, false, false, false, false, false, false, false, false, false, false, false, false, false, false, false, false] rfl rfl (any_of HT_.out (by kernel_rfl)) (fun _ _ _ h => h) (Or.inl ⟨by rfl, ?_⟩) ?_ ?_
                           rotate_left
                           ·
                            intro w'
                            go_simp
                            with_reducible rfl
                           rotate_left
                           ·
                            simp only [Act.put, List.setIfInBounds_toArray, List.set_cons_zero, List.set_cons_succ, i64_w, i32_w]
                            rfl
                           refine pure_ (i := 9) (N := some 300) (v := ?_) (a' := ?_) #[true, true, true, true, true, true, true, true, true, true, false, false, false, false, false, false, false, false, false, false, false, false, false, false, false] rfl rfl (any_of HT_.out (by kernel_rfl)) (fun _ _ _ h => h) (Or.inl ⟨by rfl, ?_⟩) ?_ ?_
                           rotate_left
                           ·
                            intro w'
                            go_simp
                            with_reducible rfl
                           rotate_left
                           ·
                            simp only [Act.put, List.setIfInBounds_toArray, List.set_cons_zero, List.set_cons_succ, i64_w, i32_w]
                            rfl
                           refine pure_ (i := 10) (N := some 301) (v := ?_) (a' := ?_) #[true, true, true, true, true, true, true, true, true, true, true, false, false, false, false, false, false, false, false, false, false, false, false, false, false] rfl rfl (any_of HT_.out (by kernel_rfl)) (fun _ _ _ h => h) (Or.inl ⟨by rfl, ?_⟩) ?_ ?_
                           rotate_left
                           ·
                            intro w'
                            go_simp
                            with_reducible rfl
                           rotate_left
                           ·
                            simp only [Act.put, List.setIfInBounds_toArray, List.set_cons_zero, List.set_cons_succ, i64_w, i32_w]
                            rfl
                           refine pure_ (i := 11) (N := some 302) (v := ?_) (a' := ?_) #[true, true, true, true, true, true, true, true, true, true, true, true, false, false, false, false, false, false, false, false, false, false, false, false, false] rfl rfl (any_of HT_.out (by kernel_rfl)) (fun _ _ _ h => h) (Or.inl ⟨by rfl, ?_⟩) ?_ ?_
                           rotate_left
                           ·
                            intro w'
                            go_simp
                            with_reducible rfl
                           rotate_left
                           ·
                            simp only [Act.put, List.setIfInBounds_toArray, List.set_cons_zero, List.set_cons_succ, i64_w, i32_w]
                            rfl
                           refine pure_ (i := 12) (N := some 303) (v := ?_) (a' := ?_) #[true, true, true, true, true, true, true, true, true, true, true, true, true, false, false, false, false, false, false, false, false, false, false, false, false] rfl rfl (any_of HT_.out (by kernel_rfl)) (fun _ _ _ h => h) (Or.inl ⟨by rfl, ?_⟩) ?_ ?_
                           rotate_left
                           ·
                            intro w'
                            go_simp
                            with_reducible rfl
                           rotate_left
                           ·
                            simp only [Act.put, List.setIfInBounds_toArray, List.set_cons_zero, List.set_cons_succ, i64_w, i32_w]
                            rfl
                           refine pure_ (i := 14) (N := some 305) (v := ?_) (a' := ?_) #[true, true, true, true, true, true, true, true, true, true, true, true, true, false, true, false, false, false, false, false, false, false, false, false, false] rfl rfl (any_of HT_.out (by kernel_rfl)) (fun _ _ _ h => h) (Or.inl ⟨by rfl, ?_⟩) ?_ ?_
                           rotate_left
                           ·
                            intro w'
                            go_simp
                            with_reducible rfl
                           rotate_left
                           ·
                            simp only [Act.put, List.setIfInBounds_toArray, List.set_cons_zero, List.set_cons_succ, i64_w, i32_w]
                            rfl
                           refine pure_ (i := 15) (N := some 306) (v := ?_) (a' := ?_) #[true, true, true, true, true, true, true, true, true, true, true, true, true, false, true, true, false, false, false, false, false, false, false, false, false] rfl rfl (any_of HT_.out (by kernel_rfl)) (fun _ _ _ h => h) (Or.inl ⟨by rfl, ?_⟩) ?_ ?_
                           rotate_left
                           ·
                            intro w'
                            go_simp
                            with_reducible rfl
                           rotate_left
                           ·
                            simp only [Act.put, List.setIfInBounds_toArray, List.set_cons_zero, List.set_cons_succ, i64_w, i32_w]
                            rfl
                           refine pure_ (i := 16) (N := some 307) (v := ?_) (a' := ?_) #[true, true, true, true, true, true, true, true, true, true, true, true, true, false, true, true, true, false, false, false, false, false, false, false, false] rfl rfl (any_of HT_.out (by kernel_rfl)) (fun _ _ _ h => h) (Or.inl ⟨by rfl, ?_⟩) ?_ ?_
                           rotate_left
                           ·
                            intro w'
                            go_simp
                            with_reducible rfl
                           rotate_left
                           ·
                            simp only [Act.put, List.setIfInBounds_toArray, List.set_cons_zero, List.set_cons_succ, i64_w, i32_w]
                            rfl
                           refine take_ (i := 13) (N := some 304) (v := ?_) (a' := ?_) #[true, true, true, true, true, true, true, true, true, true, true, true, true, true, true, true, true, false, false, false, false, false, false, false, false] rfl rfl (take_ofW HT_.out HW_.out (by kernel_rfl)) (fun _ _ _ h => h) (Or.inl ⟨by rfl, ?_⟩) hHeld ?_ ?_
                           rotate_left
                           ·
                            rintro w' ⟨s0, s1, s2, s3⟩
                            go_simp
                            with_reducible rfl
                           rotate_left
                           ·
                            simp only [Act.put, List.setIfInBounds_toArray, List.set_cons_zero, List.set_cons_succ, i64_w, i32_w]
                            rfl
                           refine take_ (i := 17) (N := some 308) (v := ?_) (a' := ?_) #[true, true, true, true, true, true, true, true, true, true, true, true, true, true, true, true, true, true, false, false, false, false, false, false, false] rfl rfl (take_ofW HT_.out HW_.out (by kernel_rfl)) (fun _ _ _ h => h) (Or.inl ⟨by rfl, ?_⟩) hHeld ?_ ?_
                           rotate_left
                           ·
                            rintro w' ⟨s0, s1, s2, s3⟩
                            go_simp
                            with_reducible rfl
                           rotate_left
                           ·
                            simp only [Act.put, List.setIfInBounds_toArray, List.set_cons_zero, List.set_cons_succ, i64_w, i32_w]
                            rfl
                           refine pure_ (i := 18) (N := some 309) (v := ?_) (a' := ?_) #[true, true, true, true, true, true, true, true, true, true, true, true, true, true, true, true, true, true, true, false, false, false, false, false, false] rfl rfl (any_of HT_.out (by kernel_rfl)) (fun _ _ _ h => h) (Or.inl ⟨by rfl, ?_⟩) ?_ ?_
                           rotate_left
                           ·
                            intro w'
                            go_simp
                            with_reducible rfl
                           rotate_left
                           ·
                            simp only [Act.put, List.setIfInBounds_toArray, List.set_cons_zero, List.set_cons_succ, i64_w, i32_w]
                            rfl
                           refine pure_ (i := 19) (N := some 310) (v := ?_) (a' := ?_) #[true, true, true, true, true, true, true, true, true, true, true, true, true, true, true, true, true, true, true, true, false, false, false, false, false] rfl rfl (any_of HT_.out (by kernel_rfl)) (fun _ _ _ h => h) (Or.inl ⟨by rfl, ?_⟩) ?_ ?_
                           rotate_left
                           ·
                            intro w'
                            go_simp
                            with_reducible rfl
                           rotate_left
                           ·
                            simp only [Act.put, List.setIfInBounds_toArray, List.set_cons_zero, List.set_cons_succ, i64_w, i32_w]
                            rfl
                           refine pure_ (i := 20) (N := some 311) (v := ?_) (a' := ?_) #[true, true, true, true, true, true, true, true, true, true, true, true, true, true, true, true, true, true, true, true, true, false, false, false, false] rfl rfl (any_of HT_.out (by kernel_rfl)) (fun _ _ _ h => h) (Or.inl ⟨by rfl, ?_⟩) ?_ ?_
                           rotate_left
                           ·
                            intro w'
                            go_simp
                            with_reducible rfl
                           rotate_left
                           ·
                            simp only [Act.put, List.setIfInBounds_toArray, List.set_cons_zero, List.set_cons_succ, i64_w, i32_w]
                            rfl
                           refine pure_ (i := 21) (N := some 312) (v := ?_) (a' := ?_) #[true, true, true, true, true, true, true, true, true, true, true, true, true, true, true, true, true, true, true, true, true, true, false, false, false] rfl rfl (any_of HT_.out (by kernel_rfl)) (fun _ _ _ h => h) (Or.inl ⟨by rfl, ?_⟩) ?_ ?_
                           rotate_left
                           ·
                            intro w'
                            go_simp
                            with_reducible rfl
                           rotate_left
                           ·
                            simp only [Act.put, List.setIfInBounds_toArray, List.set_cons_zero, List.set_cons_succ, i64_w, i32_w]
                            rfl
                           refine pure_ (i := 22) (N := some 313) (v := ?_) (a' := ?_) #[true, true, true, true, true, true, true, true, true, true, true, true, true, true, true, true, true, true, true, true, true, true, true, false, false] rfl rfl (any_of HT_.out (by kernel_rfl)) (fun _ _ _ h => h) (Or.inl ⟨by rfl, ?_⟩) ?_ ?_
                           rotate_left
                           ·
                            intro w'
                            go_simp
                            with_reducible rfl
                           rotate_left
                           ·
                            simp only [Act.put, List.setIfInBounds_toArray, List.set_cons_zero, List.set_cons_succ, i64_w, i32_w]
                            rfl
                           refine pure_ (i := 23) (N := some 314) (v := ?_) (a' := ?_) #[true, true, true, true, true, true, true, true, true, true, true, true, true, true, true, true, true, true, true, true, true, true, true, true, false] rfl rfl (any_of HT_.out (by kernel_rfl)) (fun _ _ _ h => h) (Or.inl ⟨by rfl, ?_⟩) ?_ ?_
                           rotate_left
                           ·
                            intro w'
                            go_simp
                            with_reducible rfl
                           rotate_left
                           ·
                            simp only [Act.put, List.setIfInBounds_toArray, List.set_cons_zero, List.set_cons_succ, i64_w, i32_w]
                            rfl
                           refine pure_ (i := 24) (N := some 315) (v := ?_) (a' := ?_) #[true, true, true, true, true, true, true, true, true, true, true, true, true, true, true, true, true, true, true, true, true, true, true, true, true] rfl rfl (any_of HT_.out (by kernel_rfl)) (fun _ _ _ h => h) (Or.inl ⟨by rfl, ?_⟩) ?_ ?_
                           rotate_left
                           ·
                            intro w'
                            go_simp
                            with_reducible rfl
                           rotate_left
                           ·
                            simp only [Act.put, List.setIfInBounds_toArray, List.set_cons_zero, List.set_cons_succ, i64_w, i32_w]
                            rfl
                           refine done_ (done_of HT_.out (by kernel_rfl)) ?_
                           try go_wp2
                           go_roundg k4
                           case measure => have := HJ2.out; have := HJ16.out; have := HK3.out; have := HK4.out; omega
                           case rel => exact ⟨(wrap64 (x28_4 + 1)), (by first | rfl | (simp; done) | (simp [*]; done)), H', ⟨by have := HJ2.out; have := HJ16.out; have := HK3.out; have := HK4.out; omega⟩, ⟨by (with_reducible repeat (first | apply Kd.S_alloc | apply Kd.S_drewN | apply Kd.S_drew)); exact HO_6.out⟩, ⟨by (with_reducible repeat (first | apply Kd.R_alloc | apply Kd.R_drewN | apply Kd.R_drew)); exact HO_13.out⟩, ⟨by (with_reducible repeat (first | apply Kd.R_alloc | apply Kd.R_drewN | apply Kd.R_drew)); exact HO_17.out⟩, ⟨by repeat (first | (with_reducible first | exact HB.out | apply below_alloc | apply pw_below_drewN | apply below_drew1) | exact HB.out)⟩⟩
                         ·
                          rw [if_neg c165] at H
                          have c165b0 : ((rd t282 (rd t290 (ji153))) == (rd t282 (rd t290 x28_4))) = false := beq_eq_false_iff_ne.mpr c165
                          have c165b1 : ((rd t282 (rd t290 (ji153))) != (rd t282 (rd t290 x28_4))) = true := bne_iff_ne.mpr c165
                          have H' := Aside0.mk H
                          clear H
                          obtain ⟨Ao171, co171, eo171⟩ := Kd.R_slice HO_17.out
                          subst eo171
                          have p324 : 0 ≤ ((ji153) : Int) := of_decide_eq_true (by first | (with_reducible assumption) | assumption)
                          have q324 : (ji153) < (t290.length : Int) := of_decide_eq_true (by first | (with_reducible assumption) | assumption)
                          obtain ⟨ad324, e324, hx324_0⟩ := Kd.at_int (Kd.R_reads' HO_17.out).2.2 (ji153) p324 q324
                          cases e324
                          replace p324 := eq_true p324
                          replace q324 := eq_true q324
                          have p325 : 0 ≤ (x28_4 : Int) := of_decide_eq_true (by first | (with_reducible assumption) | assumption)
                          have q325 : x28_4 < (t290.length : Int) := of_decide_eq_true (by first | (with_reducible assumption) | assumption)
                          obtain ⟨ad325, e325, hx325_0⟩ := Kd.at_int (Kd.R_reads' HO_17.out).2.2 x28_4 p325 q325
                          obtain rfl : ad324 = ad325 := (by injection e325)
                          replace p325 := eq_true p325
                          replace q325 := eq_true q325
                          try go_wp2
                          have n0_ := Aside0.mk (Kd.S_drew HO_6.out)
                          have n1_ := Aside0.mk (Kd.R_drew HO_13.out)
                          have n2_ := Aside0.mk (Kd.R_drew HO_17.out)
                          have n3_ := Aside0.mk (below_drew1 HB.out)
                          clear HO_6
                          clear HO_13
                          clear HO_17
                          clear HB
                          have HO_6 := n0_
                          have HO_13 := n1_
                          have HO_17 := n2_
                          have HB := n3_
                          clear n0_ n1_ n2_ n3_
                          have p326 : 0 ≤ ((rd t290 (ji153)) : Int) := of_decide_eq_true (by first | (with_reducible assumption) | assumption)
                          have q326 : (rd t290 (ji153)) < (t282.length : Int) := of_decide_eq_true (by first | (with_reducible assumption) | assumption)
                          obtain ⟨ad326, e326, hx326_0⟩ := Kd.at_int (Kd.R_reads' HO_13.out).2.2 (rd t290 (ji153)) p326 q326
                          cases e326
                          replace p326 := eq_true p326
                          replace q326 := eq_true q326
                          have p327 : 0 ≤ ((rd t290 x28_4) : Int) := of_decide_eq_true (by first | (with_reducible assumption) | assumption)
                          have q327 : (rd t290 x28_4) < (t282.length : Int) := of_decide_eq_true (by first | (with_reducible assumption) | assumption)
                          obtain ⟨ad327, e327, hx327_0⟩ := Kd.at_int (Kd.R_reads' HO_13.out).2.2 (rd t290 x28_4) p327 q327
                          obtain rfl : ad326 = ad327 := (by injection e327)
                          replace p327 := eq_true p327
                          replace q327 := eq_true q327
                          have p328 : 0 ≤ ((rd t290 (ji153)) : Int) := of_decide_eq_true (by first | (with_reducible assumption) | assumption)
                          have q328 : (rd t290 (ji153)) < (t282.length : Int) := of_decide_eq_true (by first | (with_reducible assumption) | assumption)
                          obtain ⟨ad328, e328, hx328_0⟩ := Kd.at_int (Kd.R_reads' HO_13.out).2.2 (rd t290 (ji153)) p328 q328
                          obtain rfl : ad326 = ad328 := (by injection e328)
                          replace p328 := eq_true p328
                          replace q328 := eq_true q328
                          have p329 : 0 ≤ ((rd t290 x28_4) : Int) := of_decide_eq_true (by first | (with_reducible assumption) | assumption)
                          have q329 : (rd t290 x28_4) < (t282.length : Int) := of_decide_eq_true (by first | (with_reducible assumption) | assumption)
                          obtain ⟨ad329, e329, hx329_0⟩ := Kd.at_int (Kd.R_reads' HO_13.out).2.2 (rd t290 x28_4) p329 q329
                          obtain rfl : ad326 = ad329 := (by injection e329)
                          replace p329 := eq_true p329
                          replace q329 := eq_true q329
                          refine start_ (n := 25) (S := fun w' => w'.cell? (ad326.add ((rd t290 (ji153))).toNat) = some (.int .i64 (rd t282 (rd t290 (ji153)))) ∧ w'.cell? (ad326.add ((rd t290 x28_4)).toNat) = some (.int .i64 (rd t282 (rd t290 x28_4))) ∧ w'.cell? (ad326.add ((rd t290 (ji153))).toNat) = some (.int .i64 (rd t282 (rd t290 (ji153)))) ∧ w'.cell? (ad326.add ((rd t290 x28_4)).toNat) = some (.int .i64 (rd t282 (rd t290 x28_4)))) (ds := []) #[false, false, false, false, false, false, false, false, false, false, false, false, false, false, false, false, false, false, false, false, false, false, false, false, false] (by kernel_rfl) rfl rfl ⟨hx326_0, hx327_0, hx328_0, hx329_0⟩ (fun hHeld => ?_); refine with_tabW laws_FnRanks.tab38 laws_FnRanks.bits38 (fun HT_ HW_ => ?_)
                          generalize wr.drew = w172 at HO_6 HO_13 HO_17 HB hx326_0 hx327_0 hx328_0 hx329_0 hHeld ⊢
                          refine pure_ (i := 0) (N := some 291) (v := ?_) (a' := ?_) #[true, false, false, false, false, false, false, false, false, false, false, false, false, false, false, false, false, false, false, false, false, false, false, false, false] rfl rfl (any_of HT_.out (by kernel_rfl)) (fun _ _ _ h => h) (Or.inl ⟨by rfl, ?_⟩) ?_ ?_
                          rotate_left
                          ·
                           intro w'
                           go_simp
                           with_reducible rfl
                          rotate_left
                          ·
                           simp only [Act.put, List.setIfInBounds_toArray, List.set_cons_zero, List.set_cons_succ, i64_w, i32_w]
                           rfl
                          refine pure_ (i := 1) (N := some 292) (v := ?_) (a' := ?_) #[true, true, false, false, false, false, false, false, false, false, false, false, false, false, false, false, false, false, false, false, false, false, false, false, false] rfl rfl (any_of HT_.out (by kernel_rfl)) (fun _ _ _ h => h) (Or.inl ⟨by rfl, ?_⟩) ?_ ?_
                          rotate_left
                          ·
                           intro w'
                           go_simp
                           with_reducible rfl
                          rotate_left
                          ·
                           simp only [Act.put, List.setIfInBounds_toArray, List.set_cons_zero, List.set_cons_succ, i64_w, i32_w]
                           rfl
                          refine pure_ (i := 2) (N := some 293) (v := ?_) (a' := ?_) #[true, true, true, false, false, false, false, false, false, false, false, false, false, false, false, false, false, false, false, false, false, false, false, false, false] rfl rfl (any_of HT_.out (by kernel_rfl)) (fun _ _ _ h => h) (Or.inl ⟨by rfl, ?_⟩) ?_ ?_
                          rotate_left
                          ·
                           intro w'
                           go_simp
                           with_reducible rfl
                          rotate_left
                          ·
                           simp only [Act.put, List.setIfInBounds_toArray, List.set_cons_zero, List.set_cons_succ, i64_w, i32_w]
                           rfl
                          refine pure_ (i := 4) (N := some 295) (v := ?_) (a' := ?_) #[true, true, true, false, true, false, false, false, false, false, false, false, false, false, false, false, false, false, false, false, false, false, false, false, false] rfl rfl (any_of HT_.out (by kernel_rfl)) (fun _ _ _ h => h) (Or.inl ⟨by rfl, ?_⟩) ?_ ?_
                          rotate_left
                          ·
                           intro w'
                           go_simp
                           with_reducible rfl
                          rotate_left
                          ·
                           simp only [Act.put, List.setIfInBounds_toArray, List.set_cons_zero, List.set_cons_succ, i64_w, i32_w]
                           rfl
                          refine pure_ (i := 5) (N := some 296) (v := ?_) (a' := ?_) #[true, true, true, false, true, true, false, false, false, false, false, false, false, false, false, false, false, false, false, false, false, false, false, false, false] rfl rfl (any_of HT_.out (by kernel_rfl)) (fun _ _ _ h => h) (Or.inl ⟨by rfl, ?_⟩) ?_ ?_
                          rotate_left
                          ·
                           intro w'
                           go_simp
                           with_reducible rfl
                          rotate_left
                          ·
                           simp only [Act.put, List.setIfInBounds_toArray, List.set_cons_zero, List.set_cons_succ, i64_w, i32_w]
                           rfl
                          refine pure_ (i := 6) (N := some 297) (v := ?_) (a' := ?_) #[true, true, true, false, true, true, true, false, false, false, false, false, false, false, false, false, false, false, false, false, false, false, false, false, false] rfl rfl (any_of HT_.out (by kernel_rfl)) (fun _ _ _ h => h) (Or.inl ⟨by rfl, ?_⟩) ?_ ?_
                          rotate_left
                          ·
                           intro w'
                           go_simp
                           with_reducible rfl
                          rotate_left
                          ·
                           simp only [Act.put, List.setIfInBounds_toArray, List.set_cons_zero, List.set_cons_succ, i64_w, i32_w]
                           rfl
                          refine take_ (i := 3) (N := some 294) (v := ?_) (a' := ?_) #[true, true, true, true, true, true, true, false, false, false, false, false, false, false, false, false, false, false, false, false, false, false, false, false, false] rfl rfl (take_ofW HT_.out HW_.out (by kernel_rfl)) (fun _ _ _ h => h) (Or.inl ⟨by rfl, ?_⟩) hHeld ?_ ?_
                          rotate_left
                          ·
                           rintro w' ⟨s0, s1, s2, s3⟩
                           go_simp
                           with_reducible rfl
                          rotate_left
                          ·
                           simp only [Act.put, List.setIfInBounds_toArray, List.set_cons_zero, List.set_cons_succ, i64_w, i32_w]
                           rfl
                          refine take_ (i := 7) (N := some 298) (v := ?_) (a' := ?_) #[true, true, true, true, true, true, true, true, false, false, false, false, false, false, false, false, false, false, false, false, false, false, false, false, false] rfl rfl (take_ofW HT_.out HW_.out (by kernel_rfl)) (fun _ _ _ h => h) (Or.inl ⟨by rfl, ?_⟩) hHeld ?_ ?_
                          rotate_left
                          ·
                           rintro w' ⟨s0, s1, s2, s3⟩
                           go_simp
                           with_reducible rfl
                          rotate_left
                          ·
                           simp only [Act.put, List.setIfInBounds_toArray, List.set_cons_zero, List.set_cons_succ, i64_w, i32_w]
                           rfl
                          refine pure_ (i := 8) (N := some 299) (v := ?_) (a' := ?_) #[true, true, true, true, true, true, true, true, true, false, false, false, false, false, false, false, false, false, false, false, false, false, false, false, false] rfl rfl (any_of HT_.out (by kernel_rfl)) (fun _ _ _ h => h) (Or.inl ⟨by rfl, ?_⟩) ?_ ?_
                          rotate_left
                          ·
                           intro w'
                           go_simp
                           with_reducible rfl
                          rotate_left
                          ·
                           simp only [Act.put, List.setIfInBounds_toArray, List.set_cons_zero, List.set_cons_succ, i64_w, i32_w]
                           rfl
                          refine pure_ (i := 9) (N := some 300) (v := ?_) (a' := ?_) #[true, true, true, true, true, true, true, true, true, true, false, false, false, false, false, false, false, false, false, false, false, false, false, false, false] rfl rfl (any_of HT_.out (by kernel_rfl)) (fun _ _ _ h => h) (Or.inl ⟨by rfl, ?_⟩) ?_ ?_
                          rotate_left
                          ·
                           intro w'
                           go_simp
                           with_reducible rfl
                          rotate_left
                          ·
                           simp only [Act.put, List.setIfInBounds_toArray, List.set_cons_zero, List.set_cons_succ, i64_w, i32_w]
                           rfl
                          refine pure_ (i := 10) (N := some 301) (v := ?_) (a' := ?_) #[true, true, true, true, true, true, true, true, true, true, true, false, false, false, false, false, false, false, false, false, false, false, false, false, false] rfl rfl (any_of HT_.out (by kernel_rfl)) (fun _ _ _ h => h) (Or.inl ⟨by rfl, ?_⟩) ?_ ?_
                          rotate_left
                          ·
                           intro w'
                           go_simp
                           with_reducible rfl
                          rotate_left
                          ·
                           simp only [Act.put, List.setIfInBounds_toArray, List.set_cons_zero, List.set_cons_succ, i64_w, i32_w]
                           rfl
                          refine pure_ (i := 11) (N := some 302) (v := ?_) (a' := ?_) #[true, true, true, true, true, true, true, true, true, true, true, true, false, false, false, false, false, false, false, false, false, false, false, false, false] rfl rfl (any_of HT_.out (by kernel_rfl)) (fun _ _ _ h => h) (Or.inl ⟨by rfl, ?_⟩) ?_ ?_
                          rotate_left
                          ·
                           intro w'
                           go_simp
                           with_reducible rfl
                          rotate_left
                          ·
                           simp only [Act.put, List.setIfInBounds_toArray, List.set_cons_zero, List.set_cons_succ, i64_w, i32_w]
                           rfl
                          refine pure_ (i := 12) (N := some 303) (v := ?_) (a' := ?_) #[true, true, true, true, true, true, true, true, true, true, true, true, true, false, false, false, false, false, false, false, false, false, false, false, false] rfl rfl (any_of HT_.out (by kernel_rfl)) (fun _ _ _ h => h) (Or.inl ⟨by rfl, ?_⟩) ?_ ?_
                          rotate_left
                          ·
                           intro w'
                           go_simp
                           with_reducible rfl
                          rotate_left
                          ·
                           simp only [Act.put, List.setIfInBounds_toArray, List.set_cons_zero, List.set_cons_succ, i64_w, i32_w]
                           rfl
                          refine pure_ (i := 14) (N := some 305) (v := ?_) (a' := ?_) #[true, true, true, true, true, true, true, true, true, true, true, true, true, false, true, false, false, false, false, false, false, false, false, false, false] rfl rfl (any_of HT_.out (by kernel_rfl)) (fun _ _ _ h => h) (Or.inl ⟨by rfl, ?_⟩) ?_ ?_
                          rotate_left
                          ·
                           intro w'
                           go_simp
                           with_reducible rfl
                          rotate_left
                          ·
                           simp only [Act.put, List.setIfInBounds_toArray, List.set_cons_zero, List.set_cons_succ, i64_w, i32_w]
                           rfl
                          refine pure_ (i := 15) (N := some 306) (v := ?_) (a' := ?_) #[true, true, true, true, true, true, true, true, true, true, true, true, true, false, true, true, false, false, false, false, false, false, false, false, false] rfl rfl (any_of HT_.out (by kernel_rfl)) (fun _ _ _ h => h) (Or.inl ⟨by rfl, ?_⟩) ?_ ?_
                          rotate_left
                          ·
                           intro w'
                           go_simp
                           with_reducible rfl
                          rotate_left
                          ·
                           simp only [Act.put, List.setIfInBounds_toArray, List.set_cons_zero, List.set_cons_succ, i64_w, i32_w]
                           rfl
                          refine pure_ (i := 16) (N := some 307) (v := ?_) (a' := ?_) #[true, true, true, true, true, true, true, true, true, true, true, true, true, false, true, true, true, false, false, false, false, false, false, false, false] rfl rfl (any_of HT_.out (by kernel_rfl)) (fun _ _ _ h => h) (Or.inl ⟨by rfl, ?_⟩) ?_ ?_
                          rotate_left
                          ·
                           intro w'
                           go_simp
                           with_reducible rfl
                          rotate_left
                          ·
                           simp only [Act.put, List.setIfInBounds_toArray, List.set_cons_zero, List.set_cons_succ, i64_w, i32_w]
                           rfl
                          refine take_ (i := 13) (N := some 304) (v := ?_) (a' := ?_) #[true, true, true, true, true, true, true, true, true, true, true, true, true, true, true, true, true, false, false, false, false, false, false, false, false] rfl rfl (take_ofW HT_.out HW_.out (by kernel_rfl)) (fun _ _ _ h => h) (Or.inl ⟨by rfl, ?_⟩) hHeld ?_ ?_
                          rotate_left
                          ·
                           rintro w' ⟨s0, s1, s2, s3⟩
                           go_simp
                           with_reducible rfl
                          rotate_left
                          ·
                           simp only [Act.put, List.setIfInBounds_toArray, List.set_cons_zero, List.set_cons_succ, i64_w, i32_w]
                           rfl
                          refine take_ (i := 17) (N := some 308) (v := ?_) (a' := ?_) #[true, true, true, true, true, true, true, true, true, true, true, true, true, true, true, true, true, true, false, false, false, false, false, false, false] rfl rfl (take_ofW HT_.out HW_.out (by kernel_rfl)) (fun _ _ _ h => h) (Or.inl ⟨by rfl, ?_⟩) hHeld ?_ ?_
                          rotate_left
                          ·
                           rintro w' ⟨s0, s1, s2, s3⟩
                           go_simp
                           with_reducible rfl
                          rotate_left
                          ·
                           simp only [Act.put, List.setIfInBounds_toArray, List.set_cons_zero, List.set_cons_succ, i64_w, i32_w]
                           rfl
                          refine pure_ (i := 18) (N := some 309) (v := ?_) (a' := ?_) #[true, true, true, true, true, true, true, true, true, true, true, true, true, true, true, true, true, true, true, false, false, false, false, false, false] rfl rfl (any_of HT_.out (by kernel_rfl)) (fun _ _ _ h => h) (Or.inl ⟨by rfl, ?_⟩) ?_ ?_
                          rotate_left
                          ·
                           intro w'
                           go_simp
                           with_reducible rfl
                          rotate_left
                          ·
                           simp only [Act.put, List.setIfInBounds_toArray, List.set_cons_zero, List.set_cons_succ, i64_w, i32_w]
                           rfl
                          refine pure_ (i := 19) (N := some 310) (v := ?_) (a' := ?_) #[true, true, true, true, true, true, true, true, true, true, true, true, true, true, true, true, true, true, true, true, false, false, false, false, false] rfl rfl (any_of HT_.out (by kernel_rfl)) (fun _ _ _ h => h) (Or.inl ⟨by rfl, ?_⟩) ?_ ?_
                          rotate_left
                          ·
                           intro w'
                           go_simp
                           with_reducible rfl
                          rotate_left
                          ·
                           simp only [Act.put, List.setIfInBounds_toArray, List.set_cons_zero, List.set_cons_succ, i64_w, i32_w]
                           rfl
                          refine pure_ (i := 20) (N := some 311) (v := undef) (a' := ?_) #[true, true, true, true, true, true, true, true, true, true, true, true, true, true, true, true, true, true, true, true, true, false, false, false, false] rfl rfl (any_of HT_.out (by kernel_rfl)) (fun _ _ _ h => h) (Or.inr ⟨by rfl, rfl⟩) ?_ ?_
                          rotate_left
                          ·
                           simp only [Act.put, List.setIfInBounds_toArray, List.set_cons_zero, List.set_cons_succ, i64_w, i32_w]
                           rfl
                          refine pure_ (i := 21) (N := some 312) (v := undef) (a' := ?_) #[true, true, true, true, true, true, true, true, true, true, true, true, true, true, true, true, true, true, true, true, true, true, false, false, false] rfl rfl (any_of HT_.out (by kernel_rfl)) (fun _ _ _ h => h) (Or.inr ⟨by rfl, rfl⟩) ?_ ?_
                          rotate_left
                          ·
                           simp only [Act.put, List.setIfInBounds_toArray, List.set_cons_zero, List.set_cons_succ, i64_w, i32_w]
                           rfl
                          refine pure_ (i := 22) (N := some 313) (v := undef) (a' := ?_) #[true, true, true, true, true, true, true, true, true, true, true, true, true, true, true, true, true, true, true, true, true, true, true, false, false] rfl rfl (any_of HT_.out (by kernel_rfl)) (fun _ _ _ h => h) (Or.inr ⟨by rfl, rfl⟩) ?_ ?_
                          rotate_left
                          ·
                           simp only [Act.put, List.setIfInBounds_toArray, List.set_cons_zero, List.set_cons_succ, i64_w, i32_w]
                           rfl
                          refine pure_ (i := 23) (N := some 314) (v := ?_) (a' := ?_) #[true, true, true, true, true, true, true, true, true, true, true, true, true, true, true, true, true, true, true, true, true, true, true, true, false] rfl rfl (any_of HT_.out (by kernel_rfl)) (fun _ _ _ h => h) (Or.inl ⟨by rfl, ?_⟩) ?_ ?_
                          rotate_left
                          ·
                           intro w'
                           go_simp
                           with_reducible rfl
                          rotate_left
                          ·
                           simp only [Act.put, List.setIfInBounds_toArray, List.set_cons_zero, List.set_cons_succ, i64_w, i32_w]
                           rfl
                          refine pure_ (i := 24) (N := some 315) (v := ?_) (a' := ?_) #[true, true, true, true, true, true, true, true, true, true, true, true, true, true, true, true, true, true, true, true, true, true, true, true, true] rfl rfl (any_of HT_.out (by kernel_rfl)) (fun _ _ _ h => h) (Or.inl ⟨by rfl, ?_⟩) ?_ ?_
                          rotate_left
                          ·
                           intro w'
                           go_simp
                           with_reducible rfl
                          rotate_left
                          ·
                           simp only [Act.put, List.setIfInBounds_toArray, List.set_cons_zero, List.set_cons_succ, i64_w, i32_w]
                           rfl
                          refine done_ (done_of HT_.out (by kernel_rfl)) ?_
                          try go_wp2
                          go_roundg k4
                          case measure => have := HJ2.out; have := HJ16.out; have := HK3.out; have := HK4.out; omega
                          case rel => exact ⟨(wrap64 (x28_4 + 1)), (by first | rfl | (simp; done) | (simp [*]; done)), H', ⟨by have := HJ2.out; have := HJ16.out; have := HK3.out; have := HK4.out; omega⟩, ⟨by (with_reducible repeat (first | apply Kd.S_alloc | apply Kd.S_drewN | apply Kd.S_drew)); exact HO_6.out⟩, ⟨by (with_reducible repeat (first | apply Kd.R_alloc | apply Kd.R_drewN | apply Kd.R_drew)); exact HO_13.out⟩, ⟨by (with_reducible repeat (first | apply Kd.R_alloc | apply Kd.R_drewN | apply Kd.R_drew)); exact HO_17.out⟩, ⟨by repeat (first | (with_reducible first | exact HB.out | apply below_alloc | apply pw_below_drewN | apply below_drew1) | exact HB.out)⟩⟩
                       ·
                        rw [if_neg c161] at H
                        exact absurd H (by simp)
                      ·
                       rw [if_neg c160] at H
                       exact absurd H (by simp)
                     ·
                      rw [if_neg c159] at H
                      exact absurd H (by simp)
                    ·
                     rw [if_neg c158] at H
                     exact absurd H (by simp)
                   ·
                    rw [if_neg c157] at H
                    exact absurd H (by simp)
                  ·
                   rw [if_neg c156] at H
                   exact absurd H (by simp)
                 ·
                  rw [if_neg c155] at H
                  exact absurd H (by simp)
                ·
                 rw [if_neg c154] at H
                 exact absurd H (by simp)
               ·
                rw [if_neg c152] at H
                have c152b0 : decide (x28_4 < t266) = false := decide_eq_false c152
                clear c152
                have H' := Aside0.mk H
                clear H
                go_wp2
                go_loopg [32, 33] k4 (fun kq v32 v33 w' => ∃ (x32_5 : Int) (x33_5 : Int), v32 = .int .i64 x32_5 ∧ v33 = .int .i64 x33_5 ∧ Aside0 (laws_FnRanks.l4 kq t266 t296 (t267.length : Int) x32_5 x33_5 = some r) ∧ Aside0 (kq ≤ k4) ∧ Aside0 (Below w.heap.size w w'))
                case atStart => exact ⟨(0), (1), (by first | rfl | (simp; done) | (simp [*]; done)), (by first | rfl | (simp; done) | (simp [*]; done)), H', ⟨Nat.le_refl _⟩, ⟨by repeat (first | (with_reducible first | exact HB.out | apply below_alloc | apply pw_below_drewN | apply below_drew1) | exact HB.out)⟩⟩
                case round => as_aux_lemma =>
                 clear H'
                 try clear c1
                 try clear p2
                 try clear p3
                 try clear q3
                 try clear hx3
                 try clear p6
                 try clear c15
                 try clear c16
                 try clear p32
                 try clear q32
                 try clear hx32
                 try clear p64
                 try clear c152
                 try clear c152b0
                 try clear c154
                 try clear c155
                 try clear c156
                 try clear c157
                 try clear c158
                 try clear c159
                 try clear c160
                 try clear c161
                 try clear c165
                 try clear c165b0
                 try clear c165b1
                 try clear c166
                 try clear c166b0
                 try clear hx324_0
                 try clear hx325_0
                 try clear hx326_0
                 try clear hx327_0
                 try clear hx328_0
                 try clear hx329_0
                 try clear p324
                 try clear p325
                 try clear p326
                 try clear p327
                 try clear p328
                 try clear p329
                 try clear q324
                 try clear q325
                 try clear q326
                 try clear q327
                 try clear q328
                 try clear q329
                 obtain ⟨x32_5, x33_5, rfl, rfl, HA, HK5, HB⟩ := hrel
                 cases gk with
                 | zero => exact absurd HA.out (by simp [laws_FnRanks.l4])
                 | succ k5 =>
                  have H := HA.out
                  clear HA
                  simp only [laws_FnRanks.l4] at H
                  by_cases c173 : x33_5 ≤ t266
                  ·
                   rw [if_pos c173] at H
                   have c173b0 : decide (x33_5 ≤ t266) = true := decide_eq_true c173
                   clear c173
                   have H' := Aside0.mk H
                   clear H
                   go_wp2
                   go_roundg k5
                   case measure => have := HJ2.out; have := HJ16.out; have := HK3.out; have := HK4.out; have := HK5.out; omega
                   case rel => exact ⟨(wrap64 (x32_5 + (wrap64 ((wrap64 ((wrap64 ((wrap64 ((wrap64 (t266 * 2)) * x33_5)) * (t267.length : Int))) - (wrap64 ((wrap64 (t266 * (wrap64 (t266 + 1)))) * (t267.length : Int))))) * (wrap64 ((wrap64 ((wrap64 ((wrap64 (t266 * 2)) * x33_5)) * (t267.length : Int))) - (wrap64 ((wrap64 (t266 * (wrap64 (t266 + 1)))) * (t267.length : Int))))))))), (wrap64 (x33_5 + 1)), (by first | rfl | (simp; done) | (simp [*]; done)), (by first | rfl | (simp; done) | (simp [*]; done)), H', ⟨by have := HJ2.out; have := HJ16.out; have := HK3.out; have := HK4.out; have := HK5.out; omega⟩, ⟨by repeat (first | (with_reducible first | exact HB.out | apply below_alloc | apply pw_below_drewN | apply below_drew1) | exact HB.out)⟩⟩
                  ·
                   rw [if_neg c173] at H
                   have c173b0 : decide (x33_5 ≤ t266) = false := decide_eq_false c173
                   clear c173
                   obtain rfl := Option.some.inj H
                   go_wp2
                   go_ret
                   exact ⟨by first | rfl | (simp [errW_none, errW_some] <;> rfl) | (simp [*, errW_none, errW_some] <;> rfl), by repeat (first | (with_reducible first | exact HB.out | apply below_alloc | apply pw_below_drewN | apply below_drew1) | exact HB.out)⟩
            ·
             replace c148 := Bool.eq_false_iff.mpr c148
             subst c148
             have H1 : (some false) = some r := by rw [if_neg (show ¬ (false = true) by decide)] at H; exact H
             clear H
             have H := H1
             clear H1
             exact absurd (Option.some.inj (H.trans (congrArg some HT.out))) Bool.false_ne_true
        ·
         rw [if_neg c114] at H
         exact absurd H (by simp)
       ·
        rw [if_neg c113] at H
        exact absurd H (by simp)

/-- THE ONE PURE STATEMENT of laws_FnRanks: yours. -/
def laws_FnRanks.Pure : Prop := ∀ (l0 : List Int) (l1 : List Int), l0.length ≤ maxLen → l0.length * 1 ≤ 140737488351232 → (∀ x ∈ l0, (Lit.int .u8 x).wf = true) → l1.length ≤ maxLen → l1.length * 1 ≤ 140737488351232 → (∀ x ∈ l1, (Lit.int .u8 x).wf = true) → ∃ k, laws_FnRanks.f k l0 l1 = some true
theorem laws_FnRanks.walk (P : laws_FnRanks.Pure) (a0 : Option Addr) (len0 cap0 : Nat) (z0 : List Int) (a1 : Option Addr) (len1 cap1 : Nat) (z1 : List Int) (w : World) (w0 : (a0 = none ∧ len0 = 0 ∧ cap0 = 0 ∧ z0 = []) ∨ ∃ x, a0 = some x ∧ len0 ≤ cap0 ∧ cap0 ≤ maxLen ∧ z0.length = cap0 ∧ (∀ i, i < z0.length → w.cell? (x.add i) = some (.int .u8 (z0.getD i 0))) ∧ ∀ n ∈ z0, (Lit.int .u8 n).wf = true) (y0 : len0 * 1 ≤ 140737488351232) (w1 : (a1 = none ∧ len1 = 0 ∧ cap1 = 0 ∧ z1 = []) ∨ ∃ x, a1 = some x ∧ len1 ≤ cap1 ∧ cap1 ≤ maxLen ∧ z1.length = cap1 ∧ (∀ i, i < z1.length → w.cell? (x.add i) = some (.int .u8 (z1.getD i 0))) ∧ ∀ n ∈ z1, (Lit.int .u8 n).wf = true) (y1 : len1 * 1 ≤ 140737488351232) :
    Calls Try.prog 4 #[.slice a0 len0 cap0, .slice a1 len1 cap1] w fun e w' => e = .returned (.bool true) ∧ Below w.heap.size w w' := by
  obtain ⟨l0, rfl, hr0, hm0, hw0, hc0⟩ := ReadsInt.ofRowC w0
  obtain ⟨l1, rfl, hr1, hm1, hw1, hc1⟩ := ReadsInt.ofRowC w1
  obtain ⟨k, h⟩ := P l0 l1 hm0 y0 hw0 hm1 y1 hw1
  refine (laws_FnRanks.calls k _ _ l0 _ _ l1 true w (Kd.C_of_reads (d := (0 : Int)) (h1 := fun _ => rfl) hr0) hc0 (Kd.C_of_reads (d := (0 : Int)) (h1 := fun _ => rfl) hr1) hc1 h rfl).mono ?_
  rintro e w' ⟨rfl, hd⟩
  exact ⟨rfl, hd⟩

end Go.Proofs.Ytepokbejmnkogaa.G
