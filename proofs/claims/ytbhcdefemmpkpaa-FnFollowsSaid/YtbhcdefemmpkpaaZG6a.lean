import Derived.Test.YtbhcdefemmpkpaaZG0
import Derived.Test.YtbhcdefemmpkpaaZFOrder
import Derived.Test.YtbhcdefemmpkpaaZFRevealO
import Derived.Test.YtbhcdefemmpkpaaZG1
import Derived.Test.YtbhcdefemmpkpaaZG2
import Derived.Test.YtbhcdefemmpkpaaZG3
import Derived.Test.YtbhcdefemmpkpaaZG4
import Derived.Test.YtbhcdefemmpkpaaZG5
namespace Go.Proofs.Ytbhcdefemmpkpaa.G
open Go.RowKit Go.Proofs.YtbhcdefemmpkpaaW.PrintWords Go.Proofs.YtbhcdefemmpkpaaW.PrintLast Go.Proofs.YtbhcdefemmpkpaaW.PrintMore
attribute [local go_sem] max2_int min2_int max_two min_two max_three min_three max_four min_four
set_option linter.unusedVariables false
set_option linter.unusedSimpArgs false
attribute [local go_sem high] eqA44
mutual
def laws_FnFollows.j0 : Nat → List Int → List Int → Bool → Option (Bool)
  | 0, _, _, _ => none
  | k + 1, x0, x1, x46 => if x46 = true then (some true) else ((spec_P6Pick.f x0 8).bind fun t355 => ((impl_FollowOrders.f k (wrap64 (1 + t355))).bind fun bt356 => ((spec_FollowOrders.f k (wrap64 (1 + t355))).bind fun bt360 => ((impl_IsBalanced.f k (wrap64 (1 + t355)) bt360.1).bind fun bt364 => ((impl_FollowsOf.f k (wrap64 (1 + t355)) bt360.1).bind fun bt366 => ((spec_FollowsOf.f k (wrap64 (1 + t355)) bt360.1).bind fun bt370 => (if bt356.2 = bt360.2 then (if bt356.2 = 0 then ((spec_SameTables.f k bt356.1 bt360.1).bind fun t374 => (if t374 = true then (if bt364.2 = 0 then (if bt364.1 = true then (if bt366.2 = bt370.2 then (if bt366.2 = 0 then ((spec_SameTables.f k bt366.1 bt370.1).bind fun t375 => (if t375 = true then (if (bt360.1.length : Int) = 0 then (laws_FnFollows.j1 k x0 x1 (wrap64 (1 + t355)) bt360.1 bt370.1 true) else (laws_FnFollows.j1 k x0 x1 (wrap64 (1 + t355)) bt360.1 bt370.1 ((bt370.1.length : Int) != (wrap64 (1 + t355))))) else (laws_FnFollows.j1 k x0 x1 (wrap64 (1 + t355)) bt360.1 bt370.1 true))) else (laws_FnFollows.j1 k x0 x1 (wrap64 (1 + t355)) bt360.1 bt370.1 true)) else (laws_FnFollows.j1 k x0 x1 (wrap64 (1 + t355)) bt360.1 bt370.1 true)) else (laws_FnFollows.j1 k x0 x1 (wrap64 (1 + t355)) bt360.1 bt370.1 true)) else (laws_FnFollows.j1 k x0 x1 (wrap64 (1 + t355)) bt360.1 bt370.1 true)) else (laws_FnFollows.j1 k x0 x1 (wrap64 (1 + t355)) bt360.1 bt370.1 true))) else (laws_FnFollows.j1 k x0 x1 (wrap64 (1 + t355)) bt360.1 bt370.1 true)) else (laws_FnFollows.j1 k x0 x1 (wrap64 (1 + t355)) bt360.1 bt370.1 true))))))))
def laws_FnFollows.j1 : Nat → List Int → List Int → Int → List (List Int) → List (List Int) → Bool → Option (Bool)
  | 0, _, _, _, _, _, _ => none
  | k + 1, x0, x1, x5, x8, x14, x124 => if x124 = true then (some false) else (laws_FnFollows.l0 k x0 x1 x5 x8 x14 0)
def laws_FnFollows.l0 : Nat → List Int → List Int → Int → List (List Int) → List (List Int) → Int → Option (Bool)
  | 0, _, _, _, _, _, _ => none
  | k + 1, x0, x1, x5, x8, x14, x16 => if x16 < (x8.length : Int) then (if 0 ≤ x16 then ((impl_IsOrder.f x5 (rd_L2 x8 x16)).bind fun t377 => (if t377 = true then (laws_FnFollows.l0 k x0 x1 x5 x8 x14 (wrap64 (x16 + 1))) else (some false))) else (none)) else (if (Int.tmod x5 2) = 1 then (laws_FnFollows.j3 k x0 x1 x5 x14 2) else (laws_FnFollows.j3 k x0 x1 x5 x14 1))
def laws_FnFollows.j3 : Nat → List Int → List Int → Int → List (List Int) → Int → Option (Bool)
  | 0, _, _, _, _, _ => none
  | k + 1, x0, x1, x5, x14, x17 => laws_FnFollows.l1 k x0 x1 x5 x14 x17 0
def laws_FnFollows.l1 : Nat → List Int → List Int → Int → List (List Int) → Int → Int → Option (Bool)
  | 0, _, _, _, _, _, _ => none
  | k + 1, x0, x1, x5, x14, x17, x18 => if x18 < x5 then (laws_FnFollows.l2 k x0 x1 x5 x14 x17 x18 0) else ((spec_P6Order.f k x0 x5).bind fun t382 => ((spec_P6Order.f k x1 x5).bind fun t385 => ((impl_DiscordOf.f k x5 t382 t385).bind fun bt388 => ((spec_DiscordOf.f k x5 t382 t385).bind fun bt390 => ((impl_DiscordOf.f k x5 t385 t382).bind fun bt392 => ((impl_DiscordOf.f k x5 t382 t382).bind fun bt394 => (if bt388.2 = bt390.2 then (if bt388.2 = 0 then (if bt388.1 = bt390.1 then (if bt392.2 = 0 then (if bt392.1 = bt390.1 then (if bt394.2 = 0 then (if bt394.1 = 0 then (if bt390.1 < 0 then (laws_FnFollows.j6 k x0 x1 x5 t382 true) else (laws_FnFollows.j6 k x0 x1 x5 t382 (decide (bt390.1 > (wrap64 (Int.tdiv (wrap64 (x5 * (wrap64 (x5 - 1)))) 2)))))) else (laws_FnFollows.j6 k x0 x1 x5 t382 true)) else (laws_FnFollows.j6 k x0 x1 x5 t382 true)) else (laws_FnFollows.j6 k x0 x1 x5 t382 true)) else (laws_FnFollows.j6 k x0 x1 x5 t382 true)) else (laws_FnFollows.j6 k x0 x1 x5 t382 true)) else (laws_FnFollows.j6 k x0 x1 x5 t382 true)) else (laws_FnFollows.j6 k x0 x1 x5 t382 true))))))))
def laws_FnFollows.l2 : Nat → List Int → List Int → Int → List (List Int) → Int → Int → Int → Option (Bool)
  | 0, _, _, _, _, _, _, _ => none
  | k + 1, x0, x1, x5, x14, x17, x18, x19 => if x19 < x5 then (if x18 = x19 then (if 0 ≤ x18 then (if x18 < (x14.length : Int) then (if 0 ≤ x19 then (if x19 < ((rd_L2 x14 x18).length : Int) then (if (rd (rd_L2 x14 x18) x19) = 0 then (laws_FnFollows.l2 k x0 x1 x5 x14 x17 x18 (wrap64 (x19 + 1))) else (some false)) else (none)) else (none)) else (none)) else (none)) else (if 0 ≤ x18 then (if x18 < (x14.length : Int) then (if 0 ≤ x19 then (if x19 < ((rd_L2 x14 x18).length : Int) then (if (rd (rd_L2 x14 x18) x19) = x17 then (laws_FnFollows.l2 k x0 x1 x5 x14 x17 x18 (wrap64 (x19 + 1))) else (some false)) else (none)) else (none)) else (none)) else (none))) else (laws_FnFollows.l1 k x0 x1 x5 x14 x17 (wrap64 (x18 + 1)))
def laws_FnFollows.j6 : Nat → List Int → List Int → Int → List Int → Bool → Option (Bool)
  | 0, _, _, _, _, _ => none
  | k + 1, x0, x1, x5, x20, x255 => if x255 = true then (some false) else ((some (([1, 7, 11, 77, 899, 13] : List Int) : List Int)).bind fun y396 => ((spec_P6Pick.f x1 6).bind fun t399 => (if 0 ≤ t399 then (if t399 < (y396.length : Int) then ((spec_P6Pick.f x0 900).bind fun t401 => ((impl_BlindNumbers.f k x5 (rd y396 t399) t401).bind fun bt402 => ((spec_P6Pick.f x1 6).bind fun t406 => (if 0 ≤ t406 then (if t406 < (y396.length : Int) then ((spec_P6Pick.f x0 900).bind fun t408 => ((spec_BlindNumbers.f k x5 (rd y396 t406) t408).bind fun bt409 => (if bt402.2 = bt409.2 then (if bt402.2 = 0 then ((spec_SameNumbers.f k bt402.1 bt409.1).bind fun t413 => (if t413 = true then (laws_FnFollows.j7 k x5 x20 bt409.1 ((bt409.1.length : Int) != x5)) else (laws_FnFollows.j7 k x5 x20 bt409.1 true))) else (laws_FnFollows.j7 k x5 x20 bt409.1 true)) else (laws_FnFollows.j7 k x5 x20 bt409.1 true)))) else (none)) else (none))))) else (none)) else (none))))
def laws_FnFollows.j7 : Nat → Int → List Int → List Int → Bool → Option (Bool)
  | 0, _, _, _, _ => none
  | k + 1, x5, x20, x33, x299 => if x299 = true then (some false) else (laws_FnFollows.l3 k x5 x20 x33 (([] : List (S44))) (([] : List Int)) 0)
def laws_FnFollows.l3 : Nat → Int → List Int → List Int → List (S44) → List Int → Int → Option (Bool)
  | 0, _, _, _, _, _, _ => none
  | k + 1, x5, x20, x33, x35, x36, x37 => if x37 < x5 then (if 0 ≤ x37 then (if x37 < (x33.length : Int) then (if (rd x33 x37) < 100 then (some false) else (if (rd x33 x37) > 999 then (some false) else (if x37 ≤ (x33.length : Int) then ((spec_HasNumber.f k (x33.take (x37 : Int).toNat) (rd x33 x37)).bind fun t427 => (if t427 = true then (some false) else (if x35.length < 35184372088832 then (if x37 < (x20.length : Int) then (if 0 ≤ (rd x20 x37) then (if (rd x20 x37) < (x33.length : Int) then (if x36.length < 17592186044416 then (laws_FnFollows.l3 k x5 x20 x33 (x35 ++ [(⟨(wrap64 (x37 + 1)) % 256, 2000⟩ : S44)]) (x36 ++ [rd x33 (rd x20 x37)]) (wrap64 (x37 + 1))) else (none)) else (none)) else (none)) else (none)) else (none)))) else (none)))) else (none)) else (none)) else ((impl_RevealOrder.f x33 x36 x35).bind fun bt436 => (if bt436.2 = 0 then (laws_FnFollows.j9 k x5 x20 x35 bt436.1 ((bt436.1.length : Int) != x5)) else (laws_FnFollows.j9 k x5 x20 x35 bt436.1 true)))
def laws_FnFollows.j9 : Nat → Int → List Int → List (S44) → List (S44) → Bool → Option (Bool)
  | 0, _, _, _, _, _ => none
  | k + 1, x5, x20, x35, x38, x360 => if x360 = true then (some false) else (laws_FnFollows.l4 k x5 x20 x35 x38 0)
def laws_FnFollows.l4 : Nat → Int → List Int → List (S44) → List (S44) → Int → Option (Bool)
  | 0, _, _, _, _, _ => none
  | k + 1, x5, x20, x35, x38, x40 => if x40 < x5 then (if 0 ≤ x40 then (if x40 < (x38.length : Int) then (if x40 < (x20.length : Int) then (if 0 ≤ (rd x20 x40) then (if (rd x20 x40) < (x35.length : Int) then (if (!(((rd_T44 x38 x40).f0) == ((rd_T44 x35 (rd x20 x40)).f0)) || (!(((rd_T44 x38 x40).f1) == ((rd_T44 x35 (rd x20 x40)).f1)))) = true then (some false) else (laws_FnFollows.l4 k x5 x20 x35 x38 (wrap64 (x40 + 1)))) else (none)) else (none)) else (none)) else (none)) else (none)) else (some true)
end
def laws_FnFollows.f (k : Nat) (l0 : List Int) (l1 : List Int) : Option (Bool) := (laws_f6big.f l0).bind fun t353 => (if t353 = true then (laws_FnFollows.j0 k l0 l1 true) else ((laws_f6big.f l1).bind fun t354 => (laws_FnFollows.j0 k l0 l1 t354)))
theorem laws_FnFollows.mono_l : ∀ k, (∀ y0 y1 y2, LeO (laws_FnFollows.j0 k y0 y1 y2) (laws_FnFollows.j0 (k + 1) y0 y1 y2)) ∧ (∀ y0 y1 y2 y3 y4 y5, LeO (laws_FnFollows.j1 k y0 y1 y2 y3 y4 y5) (laws_FnFollows.j1 (k + 1) y0 y1 y2 y3 y4 y5)) ∧ (∀ y0 y1 y2 y3 y4 y5, LeO (laws_FnFollows.l0 k y0 y1 y2 y3 y4 y5) (laws_FnFollows.l0 (k + 1) y0 y1 y2 y3 y4 y5)) ∧ (∀ y0 y1 y2 y3 y4, LeO (laws_FnFollows.j3 k y0 y1 y2 y3 y4) (laws_FnFollows.j3 (k + 1) y0 y1 y2 y3 y4)) ∧ (∀ y0 y1 y2 y3 y4 y5, LeO (laws_FnFollows.l1 k y0 y1 y2 y3 y4 y5) (laws_FnFollows.l1 (k + 1) y0 y1 y2 y3 y4 y5)) ∧ (∀ y0 y1 y2 y3 y4 y5 y6, LeO (laws_FnFollows.l2 k y0 y1 y2 y3 y4 y5 y6) (laws_FnFollows.l2 (k + 1) y0 y1 y2 y3 y4 y5 y6)) ∧ (∀ y0 y1 y2 y3 y4, LeO (laws_FnFollows.j6 k y0 y1 y2 y3 y4) (laws_FnFollows.j6 (k + 1) y0 y1 y2 y3 y4)) ∧ (∀ y0 y1 y2 y3, LeO (laws_FnFollows.j7 k y0 y1 y2 y3) (laws_FnFollows.j7 (k + 1) y0 y1 y2 y3)) ∧ (∀ y0 y1 y2 y3 y4 y5, LeO (laws_FnFollows.l3 k y0 y1 y2 y3 y4 y5) (laws_FnFollows.l3 (k + 1) y0 y1 y2 y3 y4 y5)) ∧ (∀ y0 y1 y2 y3 y4, LeO (laws_FnFollows.j9 k y0 y1 y2 y3 y4) (laws_FnFollows.j9 (k + 1) y0 y1 y2 y3 y4)) ∧ (∀ y0 y1 y2 y3 y4, LeO (laws_FnFollows.l4 k y0 y1 y2 y3 y4) (laws_FnFollows.l4 (k + 1) y0 y1 y2 y3 y4))
  | 0 => ⟨fun _ _ _ r h => by simp [laws_FnFollows.j0] at h, fun _ _ _ _ _ _ r h => by simp [laws_FnFollows.j1] at h, fun _ _ _ _ _ _ r h => by simp [laws_FnFollows.l0] at h, fun _ _ _ _ _ r h => by simp [laws_FnFollows.j3] at h, fun _ _ _ _ _ _ r h => by simp [laws_FnFollows.l1] at h, fun _ _ _ _ _ _ _ r h => by simp [laws_FnFollows.l2] at h, fun _ _ _ _ _ r h => by simp [laws_FnFollows.j6] at h, fun _ _ _ _ r h => by simp [laws_FnFollows.j7] at h, fun _ _ _ _ _ _ r h => by simp [laws_FnFollows.l3] at h, fun _ _ _ _ _ r h => by simp [laws_FnFollows.j9] at h, fun _ _ _ _ _ r h => by simp [laws_FnFollows.l4] at h⟩
  | k + 1 => by
    obtain ⟨ih0, ih1, ih2, ih3, ih4, ih5, ih6, ih7, ih8, ih9, ih10⟩ := laws_FnFollows.mono_l k
    refine ⟨?_, ?_, ?_, ?_, ?_, ?_, ?_, ?_, ?_, ?_, ?_⟩
    · intro y0 y1 y2
      unfold laws_FnFollows.j0
      repeat' first
      | (with_reducible exact ih0 _ _ _)
      | (with_reducible exact ih1 _ _ _ _ _ _)
      | (with_reducible exact ih2 _ _ _ _ _ _)
      | (with_reducible exact ih3 _ _ _ _ _)
      | (with_reducible exact ih4 _ _ _ _ _ _)
      | (with_reducible exact ih5 _ _ _ _ _ _ _)
      | (with_reducible exact ih6 _ _ _ _ _)
      | (with_reducible exact ih7 _ _ _ _)
      | (with_reducible exact ih8 _ _ _ _ _ _)
      | (with_reducible exact ih9 _ _ _ _ _)
      | (with_reducible exact ih10 _ _ _ _ _)
      | (with_reducible exact impl_BlindNumbers.mono _ _ _ _)
      | (with_reducible exact impl_DiscordOf.mono _ _ _ _)
      | (with_reducible exact impl_FollowOrders.mono _ _)
      | (with_reducible exact impl_FollowsOf.mono _ _ _)
      | (with_reducible exact impl_IsBalanced.mono _ _ _)
      | (with_reducible exact spec_BlindNumbers.mono _ _ _ _)
      | (with_reducible exact spec_DiscordOf.mono _ _ _ _)
      | (with_reducible exact spec_FollowOrders.mono _ _)
      | (with_reducible exact spec_FollowsOf.mono _ _ _)
      | (with_reducible exact spec_HasNumber.mono _ _ _)
      | (with_reducible exact spec_P6Order.mono _ _ _)
      | (with_reducible exact spec_SameNumbers.mono _ _ _)
      | (with_reducible exact spec_SameTables.mono _ _ _)
      | (with_reducible exact LeO.refl _)
      | (with_reducible exact LeO.none _)
      | (with_reducible refine LeO.ite ?_ ?_)
      | (with_reducible refine LeO.bind ?_ (fun _ => ?_))
      | exact ih0 _ _ _
      | exact ih1 _ _ _ _ _ _
      | exact ih2 _ _ _ _ _ _
      | exact ih3 _ _ _ _ _
      | exact ih4 _ _ _ _ _ _
      | exact ih5 _ _ _ _ _ _ _
      | exact ih6 _ _ _ _ _
      | exact ih7 _ _ _ _
      | exact ih8 _ _ _ _ _ _
      | exact ih9 _ _ _ _ _
      | exact ih10 _ _ _ _ _
      | exact impl_BlindNumbers.mono _ _ _ _
      | exact impl_DiscordOf.mono _ _ _ _
      | exact impl_FollowOrders.mono _ _
      | exact impl_FollowsOf.mono _ _ _
      | exact impl_IsBalanced.mono _ _ _
      | exact spec_BlindNumbers.mono _ _ _ _
      | exact spec_DiscordOf.mono _ _ _ _
      | exact spec_FollowOrders.mono _ _
      | exact spec_FollowsOf.mono _ _ _
      | exact spec_HasNumber.mono _ _ _
      | exact spec_P6Order.mono _ _ _
      | exact spec_SameNumbers.mono _ _ _
      | exact spec_SameTables.mono _ _ _
      | exact LeO.none _
      | refine LeO.ite ?_ ?_
      | refine LeO.bind ?_ (fun _ => ?_)
    · intro y0 y1 y2 y3 y4 y5
      unfold laws_FnFollows.j1
      repeat' first
      | (with_reducible exact ih0 _ _ _)
      | (with_reducible exact ih1 _ _ _ _ _ _)
      | (with_reducible exact ih2 _ _ _ _ _ _)
      | (with_reducible exact ih3 _ _ _ _ _)
      | (with_reducible exact ih4 _ _ _ _ _ _)
      | (with_reducible exact ih5 _ _ _ _ _ _ _)
      | (with_reducible exact ih6 _ _ _ _ _)
      | (with_reducible exact ih7 _ _ _ _)
      | (with_reducible exact ih8 _ _ _ _ _ _)
      | (with_reducible exact ih9 _ _ _ _ _)
      | (with_reducible exact ih10 _ _ _ _ _)
      | (with_reducible exact impl_BlindNumbers.mono _ _ _ _)
      | (with_reducible exact impl_DiscordOf.mono _ _ _ _)
      | (with_reducible exact impl_FollowOrders.mono _ _)
      | (with_reducible exact impl_FollowsOf.mono _ _ _)
      | (with_reducible exact impl_IsBalanced.mono _ _ _)
      | (with_reducible exact spec_BlindNumbers.mono _ _ _ _)
      | (with_reducible exact spec_DiscordOf.mono _ _ _ _)
      | (with_reducible exact spec_FollowOrders.mono _ _)
      | (with_reducible exact spec_FollowsOf.mono _ _ _)
      | (with_reducible exact spec_HasNumber.mono _ _ _)
      | (with_reducible exact spec_P6Order.mono _ _ _)
      | (with_reducible exact spec_SameNumbers.mono _ _ _)
      | (with_reducible exact spec_SameTables.mono _ _ _)
      | (with_reducible exact LeO.refl _)
      | (with_reducible exact LeO.none _)
      | (with_reducible refine LeO.ite ?_ ?_)
      | (with_reducible refine LeO.bind ?_ (fun _ => ?_))
      | exact ih0 _ _ _
      | exact ih1 _ _ _ _ _ _
      | exact ih2 _ _ _ _ _ _
      | exact ih3 _ _ _ _ _
      | exact ih4 _ _ _ _ _ _
      | exact ih5 _ _ _ _ _ _ _
      | exact ih6 _ _ _ _ _
      | exact ih7 _ _ _ _
      | exact ih8 _ _ _ _ _ _
      | exact ih9 _ _ _ _ _
      | exact ih10 _ _ _ _ _
      | exact impl_BlindNumbers.mono _ _ _ _
      | exact impl_DiscordOf.mono _ _ _ _
      | exact impl_FollowOrders.mono _ _
      | exact impl_FollowsOf.mono _ _ _
      | exact impl_IsBalanced.mono _ _ _
      | exact spec_BlindNumbers.mono _ _ _ _
      | exact spec_DiscordOf.mono _ _ _ _
      | exact spec_FollowOrders.mono _ _
      | exact spec_FollowsOf.mono _ _ _
      | exact spec_HasNumber.mono _ _ _
      | exact spec_P6Order.mono _ _ _
      | exact spec_SameNumbers.mono _ _ _
      | exact spec_SameTables.mono _ _ _
      | exact LeO.none _
      | refine LeO.ite ?_ ?_
      | refine LeO.bind ?_ (fun _ => ?_)
    · intro y0 y1 y2 y3 y4 y5
      unfold laws_FnFollows.l0
      repeat' first
      | (with_reducible exact ih0 _ _ _)
      | (with_reducible exact ih1 _ _ _ _ _ _)
      | (with_reducible exact ih2 _ _ _ _ _ _)
      | (with_reducible exact ih3 _ _ _ _ _)
      | (with_reducible exact ih4 _ _ _ _ _ _)
      | (with_reducible exact ih5 _ _ _ _ _ _ _)
      | (with_reducible exact ih6 _ _ _ _ _)
      | (with_reducible exact ih7 _ _ _ _)
      | (with_reducible exact ih8 _ _ _ _ _ _)
      | (with_reducible exact ih9 _ _ _ _ _)
      | (with_reducible exact ih10 _ _ _ _ _)
      | (with_reducible exact impl_BlindNumbers.mono _ _ _ _)
      | (with_reducible exact impl_DiscordOf.mono _ _ _ _)
      | (with_reducible exact impl_FollowOrders.mono _ _)
      | (with_reducible exact impl_FollowsOf.mono _ _ _)
      | (with_reducible exact impl_IsBalanced.mono _ _ _)
      | (with_reducible exact spec_BlindNumbers.mono _ _ _ _)
      | (with_reducible exact spec_DiscordOf.mono _ _ _ _)
      | (with_reducible exact spec_FollowOrders.mono _ _)
      | (with_reducible exact spec_FollowsOf.mono _ _ _)
      | (with_reducible exact spec_HasNumber.mono _ _ _)
      | (with_reducible exact spec_P6Order.mono _ _ _)
      | (with_reducible exact spec_SameNumbers.mono _ _ _)
      | (with_reducible exact spec_SameTables.mono _ _ _)
      | (with_reducible exact LeO.refl _)
      | (with_reducible exact LeO.none _)
      | (with_reducible refine LeO.ite ?_ ?_)
      | (with_reducible refine LeO.bind ?_ (fun _ => ?_))
      | exact ih0 _ _ _
      | exact ih1 _ _ _ _ _ _
      | exact ih2 _ _ _ _ _ _
      | exact ih3 _ _ _ _ _
      | exact ih4 _ _ _ _ _ _
      | exact ih5 _ _ _ _ _ _ _
      | exact ih6 _ _ _ _ _
      | exact ih7 _ _ _ _
      | exact ih8 _ _ _ _ _ _
      | exact ih9 _ _ _ _ _
      | exact ih10 _ _ _ _ _
      | exact impl_BlindNumbers.mono _ _ _ _
      | exact impl_DiscordOf.mono _ _ _ _
      | exact impl_FollowOrders.mono _ _
      | exact impl_FollowsOf.mono _ _ _
      | exact impl_IsBalanced.mono _ _ _
      | exact spec_BlindNumbers.mono _ _ _ _
      | exact spec_DiscordOf.mono _ _ _ _
      | exact spec_FollowOrders.mono _ _
      | exact spec_FollowsOf.mono _ _ _
      | exact spec_HasNumber.mono _ _ _
      | exact spec_P6Order.mono _ _ _
      | exact spec_SameNumbers.mono _ _ _
      | exact spec_SameTables.mono _ _ _
      | exact LeO.none _
      | refine LeO.ite ?_ ?_
      | refine LeO.bind ?_ (fun _ => ?_)
    · intro y0 y1 y2 y3 y4
      unfold laws_FnFollows.j3
      repeat' first
      | (with_reducible exact ih0 _ _ _)
      | (with_reducible exact ih1 _ _ _ _ _ _)
      | (with_reducible exact ih2 _ _ _ _ _ _)
      | (with_reducible exact ih3 _ _ _ _ _)
      | (with_reducible exact ih4 _ _ _ _ _ _)
      | (with_reducible exact ih5 _ _ _ _ _ _ _)
      | (with_reducible exact ih6 _ _ _ _ _)
      | (with_reducible exact ih7 _ _ _ _)
      | (with_reducible exact ih8 _ _ _ _ _ _)
      | (with_reducible exact ih9 _ _ _ _ _)
      | (with_reducible exact ih10 _ _ _ _ _)
      | (with_reducible exact impl_BlindNumbers.mono _ _ _ _)
      | (with_reducible exact impl_DiscordOf.mono _ _ _ _)
      | (with_reducible exact impl_FollowOrders.mono _ _)
      | (with_reducible exact impl_FollowsOf.mono _ _ _)
      | (with_reducible exact impl_IsBalanced.mono _ _ _)
      | (with_reducible exact spec_BlindNumbers.mono _ _ _ _)
      | (with_reducible exact spec_DiscordOf.mono _ _ _ _)
      | (with_reducible exact spec_FollowOrders.mono _ _)
      | (with_reducible exact spec_FollowsOf.mono _ _ _)
      | (with_reducible exact spec_HasNumber.mono _ _ _)
      | (with_reducible exact spec_P6Order.mono _ _ _)
      | (with_reducible exact spec_SameNumbers.mono _ _ _)
      | (with_reducible exact spec_SameTables.mono _ _ _)
      | (with_reducible exact LeO.refl _)
      | (with_reducible exact LeO.none _)
      | (with_reducible refine LeO.ite ?_ ?_)
      | (with_reducible refine LeO.bind ?_ (fun _ => ?_))
      | exact ih0 _ _ _
      | exact ih1 _ _ _ _ _ _
      | exact ih2 _ _ _ _ _ _
      | exact ih3 _ _ _ _ _
      | exact ih4 _ _ _ _ _ _
      | exact ih5 _ _ _ _ _ _ _
      | exact ih6 _ _ _ _ _
      | exact ih7 _ _ _ _
      | exact ih8 _ _ _ _ _ _
      | exact ih9 _ _ _ _ _
      | exact ih10 _ _ _ _ _
      | exact impl_BlindNumbers.mono _ _ _ _
      | exact impl_DiscordOf.mono _ _ _ _
      | exact impl_FollowOrders.mono _ _
      | exact impl_FollowsOf.mono _ _ _
      | exact impl_IsBalanced.mono _ _ _
      | exact spec_BlindNumbers.mono _ _ _ _
      | exact spec_DiscordOf.mono _ _ _ _
      | exact spec_FollowOrders.mono _ _
      | exact spec_FollowsOf.mono _ _ _
      | exact spec_HasNumber.mono _ _ _
      | exact spec_P6Order.mono _ _ _
      | exact spec_SameNumbers.mono _ _ _
      | exact spec_SameTables.mono _ _ _
      | exact LeO.none _
      | refine LeO.ite ?_ ?_
      | refine LeO.bind ?_ (fun _ => ?_)
    · intro y0 y1 y2 y3 y4 y5
      unfold laws_FnFollows.l1
      repeat' first
      | (with_reducible exact ih0 _ _ _)
      | (with_reducible exact ih1 _ _ _ _ _ _)
      | (with_reducible exact ih2 _ _ _ _ _ _)
      | (with_reducible exact ih3 _ _ _ _ _)
      | (with_reducible exact ih4 _ _ _ _ _ _)
      | (with_reducible exact ih5 _ _ _ _ _ _ _)
      | (with_reducible exact ih6 _ _ _ _ _)
      | (with_reducible exact ih7 _ _ _ _)
      | (with_reducible exact ih8 _ _ _ _ _ _)
      | (with_reducible exact ih9 _ _ _ _ _)
      | (with_reducible exact ih10 _ _ _ _ _)
      | (with_reducible exact impl_BlindNumbers.mono _ _ _ _)
      | (with_reducible exact impl_DiscordOf.mono _ _ _ _)
      | (with_reducible exact impl_FollowOrders.mono _ _)
      | (with_reducible exact impl_FollowsOf.mono _ _ _)
      | (with_reducible exact impl_IsBalanced.mono _ _ _)
      | (with_reducible exact spec_BlindNumbers.mono _ _ _ _)
      | (with_reducible exact spec_DiscordOf.mono _ _ _ _)
      | (with_reducible exact spec_FollowOrders.mono _ _)
      | (with_reducible exact spec_FollowsOf.mono _ _ _)
      | (with_reducible exact spec_HasNumber.mono _ _ _)
      | (with_reducible exact spec_P6Order.mono _ _ _)
      | (with_reducible exact spec_SameNumbers.mono _ _ _)
      | (with_reducible exact spec_SameTables.mono _ _ _)
      | (with_reducible exact LeO.refl _)
      | (with_reducible exact LeO.none _)
      | (with_reducible refine LeO.ite ?_ ?_)
      | (with_reducible refine LeO.bind ?_ (fun _ => ?_))
      | exact ih0 _ _ _
      | exact ih1 _ _ _ _ _ _
      | exact ih2 _ _ _ _ _ _
      | exact ih3 _ _ _ _ _
      | exact ih4 _ _ _ _ _ _
      | exact ih5 _ _ _ _ _ _ _
      | exact ih6 _ _ _ _ _
      | exact ih7 _ _ _ _
      | exact ih8 _ _ _ _ _ _
      | exact ih9 _ _ _ _ _
      | exact ih10 _ _ _ _ _
      | exact impl_BlindNumbers.mono _ _ _ _
      | exact impl_DiscordOf.mono _ _ _ _
      | exact impl_FollowOrders.mono _ _
      | exact impl_FollowsOf.mono _ _ _
      | exact impl_IsBalanced.mono _ _ _
      | exact spec_BlindNumbers.mono _ _ _ _
      | exact spec_DiscordOf.mono _ _ _ _
      | exact spec_FollowOrders.mono _ _
      | exact spec_FollowsOf.mono _ _ _
      | exact spec_HasNumber.mono _ _ _
      | exact spec_P6Order.mono _ _ _
      | exact spec_SameNumbers.mono _ _ _
      | exact spec_SameTables.mono _ _ _
      | exact LeO.none _
      | refine LeO.ite ?_ ?_
      | refine LeO.bind ?_ (fun _ => ?_)
    · intro y0 y1 y2 y3 y4 y5 y6
      unfold laws_FnFollows.l2
      repeat' first
      | (with_reducible exact ih0 _ _ _)
      | (with_reducible exact ih1 _ _ _ _ _ _)
      | (with_reducible exact ih2 _ _ _ _ _ _)
      | (with_reducible exact ih3 _ _ _ _ _)
      | (with_reducible exact ih4 _ _ _ _ _ _)
      | (with_reducible exact ih5 _ _ _ _ _ _ _)
      | (with_reducible exact ih6 _ _ _ _ _)
      | (with_reducible exact ih7 _ _ _ _)
      | (with_reducible exact ih8 _ _ _ _ _ _)
      | (with_reducible exact ih9 _ _ _ _ _)
      | (with_reducible exact ih10 _ _ _ _ _)
      | (with_reducible exact impl_BlindNumbers.mono _ _ _ _)
      | (with_reducible exact impl_DiscordOf.mono _ _ _ _)
      | (with_reducible exact impl_FollowOrders.mono _ _)
      | (with_reducible exact impl_FollowsOf.mono _ _ _)
      | (with_reducible exact impl_IsBalanced.mono _ _ _)
      | (with_reducible exact spec_BlindNumbers.mono _ _ _ _)
      | (with_reducible exact spec_DiscordOf.mono _ _ _ _)
      | (with_reducible exact spec_FollowOrders.mono _ _)
      | (with_reducible exact spec_FollowsOf.mono _ _ _)
      | (with_reducible exact spec_HasNumber.mono _ _ _)
      | (with_reducible exact spec_P6Order.mono _ _ _)
      | (with_reducible exact spec_SameNumbers.mono _ _ _)
      | (with_reducible exact spec_SameTables.mono _ _ _)
      | (with_reducible exact LeO.refl _)
      | (with_reducible exact LeO.none _)
      | (with_reducible refine LeO.ite ?_ ?_)
      | (with_reducible refine LeO.bind ?_ (fun _ => ?_))
      | exact ih0 _ _ _
      | exact ih1 _ _ _ _ _ _
      | exact ih2 _ _ _ _ _ _
      | exact ih3 _ _ _ _ _
      | exact ih4 _ _ _ _ _ _
      | exact ih5 _ _ _ _ _ _ _
      | exact ih6 _ _ _ _ _
      | exact ih7 _ _ _ _
      | exact ih8 _ _ _ _ _ _
      | exact ih9 _ _ _ _ _
      | exact ih10 _ _ _ _ _
      | exact impl_BlindNumbers.mono _ _ _ _
      | exact impl_DiscordOf.mono _ _ _ _
      | exact impl_FollowOrders.mono _ _
      | exact impl_FollowsOf.mono _ _ _
      | exact impl_IsBalanced.mono _ _ _
      | exact spec_BlindNumbers.mono _ _ _ _
      | exact spec_DiscordOf.mono _ _ _ _
      | exact spec_FollowOrders.mono _ _
      | exact spec_FollowsOf.mono _ _ _
      | exact spec_HasNumber.mono _ _ _
      | exact spec_P6Order.mono _ _ _
      | exact spec_SameNumbers.mono _ _ _
      | exact spec_SameTables.mono _ _ _
      | exact LeO.none _
      | refine LeO.ite ?_ ?_
      | refine LeO.bind ?_ (fun _ => ?_)
    · intro y0 y1 y2 y3 y4
      unfold laws_FnFollows.j6
      repeat' first
      | (with_reducible exact ih0 _ _ _)
      | (with_reducible exact ih1 _ _ _ _ _ _)
      | (with_reducible exact ih2 _ _ _ _ _ _)
      | (with_reducible exact ih3 _ _ _ _ _)
      | (with_reducible exact ih4 _ _ _ _ _ _)
      | (with_reducible exact ih5 _ _ _ _ _ _ _)
      | (with_reducible exact ih6 _ _ _ _ _)
      | (with_reducible exact ih7 _ _ _ _)
      | (with_reducible exact ih8 _ _ _ _ _ _)
      | (with_reducible exact ih9 _ _ _ _ _)
      | (with_reducible exact ih10 _ _ _ _ _)
      | (with_reducible exact impl_BlindNumbers.mono _ _ _ _)
      | (with_reducible exact impl_DiscordOf.mono _ _ _ _)
      | (with_reducible exact impl_FollowOrders.mono _ _)
      | (with_reducible exact impl_FollowsOf.mono _ _ _)
      | (with_reducible exact impl_IsBalanced.mono _ _ _)
      | (with_reducible exact spec_BlindNumbers.mono _ _ _ _)
      | (with_reducible exact spec_DiscordOf.mono _ _ _ _)
      | (with_reducible exact spec_FollowOrders.mono _ _)
      | (with_reducible exact spec_FollowsOf.mono _ _ _)
      | (with_reducible exact spec_HasNumber.mono _ _ _)
      | (with_reducible exact spec_P6Order.mono _ _ _)
      | (with_reducible exact spec_SameNumbers.mono _ _ _)
      | (with_reducible exact spec_SameTables.mono _ _ _)
      | (with_reducible exact LeO.refl _)
      | (with_reducible exact LeO.none _)
      | (with_reducible refine LeO.ite ?_ ?_)
      | (with_reducible refine LeO.bind ?_ (fun _ => ?_))
      | exact ih0 _ _ _
      | exact ih1 _ _ _ _ _ _
      | exact ih2 _ _ _ _ _ _
      | exact ih3 _ _ _ _ _
      | exact ih4 _ _ _ _ _ _
      | exact ih5 _ _ _ _ _ _ _
      | exact ih6 _ _ _ _ _
      | exact ih7 _ _ _ _
      | exact ih8 _ _ _ _ _ _
      | exact ih9 _ _ _ _ _
      | exact ih10 _ _ _ _ _
      | exact impl_BlindNumbers.mono _ _ _ _
      | exact impl_DiscordOf.mono _ _ _ _
      | exact impl_FollowOrders.mono _ _
      | exact impl_FollowsOf.mono _ _ _
      | exact impl_IsBalanced.mono _ _ _
      | exact spec_BlindNumbers.mono _ _ _ _
      | exact spec_DiscordOf.mono _ _ _ _
      | exact spec_FollowOrders.mono _ _
      | exact spec_FollowsOf.mono _ _ _
      | exact spec_HasNumber.mono _ _ _
      | exact spec_P6Order.mono _ _ _
      | exact spec_SameNumbers.mono _ _ _
      | exact spec_SameTables.mono _ _ _
      | exact LeO.none _
      | refine LeO.ite ?_ ?_
      | refine LeO.bind ?_ (fun _ => ?_)
    · intro y0 y1 y2 y3
      unfold laws_FnFollows.j7
      repeat' first
      | (with_reducible exact ih0 _ _ _)
      | (with_reducible exact ih1 _ _ _ _ _ _)
      | (with_reducible exact ih2 _ _ _ _ _ _)
      | (with_reducible exact ih3 _ _ _ _ _)
      | (with_reducible exact ih4 _ _ _ _ _ _)
      | (with_reducible exact ih5 _ _ _ _ _ _ _)
      | (with_reducible exact ih6 _ _ _ _ _)
      | (with_reducible exact ih7 _ _ _ _)
      | (with_reducible exact ih8 _ _ _ _ _ _)
      | (with_reducible exact ih9 _ _ _ _ _)
      | (with_reducible exact ih10 _ _ _ _ _)
      | (with_reducible exact impl_BlindNumbers.mono _ _ _ _)
      | (with_reducible exact impl_DiscordOf.mono _ _ _ _)
      | (with_reducible exact impl_FollowOrders.mono _ _)
      | (with_reducible exact impl_FollowsOf.mono _ _ _)
      | (with_reducible exact impl_IsBalanced.mono _ _ _)
      | (with_reducible exact spec_BlindNumbers.mono _ _ _ _)
      | (with_reducible exact spec_DiscordOf.mono _ _ _ _)
      | (with_reducible exact spec_FollowOrders.mono _ _)
      | (with_reducible exact spec_FollowsOf.mono _ _ _)
      | (with_reducible exact spec_HasNumber.mono _ _ _)
      | (with_reducible exact spec_P6Order.mono _ _ _)
      | (with_reducible exact spec_SameNumbers.mono _ _ _)
      | (with_reducible exact spec_SameTables.mono _ _ _)
      | (with_reducible exact LeO.refl _)
      | (with_reducible exact LeO.none _)
      | (with_reducible refine LeO.ite ?_ ?_)
      | (with_reducible refine LeO.bind ?_ (fun _ => ?_))
      | exact ih0 _ _ _
      | exact ih1 _ _ _ _ _ _
      | exact ih2 _ _ _ _ _ _
      | exact ih3 _ _ _ _ _
      | exact ih4 _ _ _ _ _ _
      | exact ih5 _ _ _ _ _ _ _
      | exact ih6 _ _ _ _ _
      | exact ih7 _ _ _ _
      | exact ih8 _ _ _ _ _ _
      | exact ih9 _ _ _ _ _
      | exact ih10 _ _ _ _ _
      | exact impl_BlindNumbers.mono _ _ _ _
      | exact impl_DiscordOf.mono _ _ _ _
      | exact impl_FollowOrders.mono _ _
      | exact impl_FollowsOf.mono _ _ _
      | exact impl_IsBalanced.mono _ _ _
      | exact spec_BlindNumbers.mono _ _ _ _
      | exact spec_DiscordOf.mono _ _ _ _
      | exact spec_FollowOrders.mono _ _
      | exact spec_FollowsOf.mono _ _ _
      | exact spec_HasNumber.mono _ _ _
      | exact spec_P6Order.mono _ _ _
      | exact spec_SameNumbers.mono _ _ _
      | exact spec_SameTables.mono _ _ _
      | exact LeO.none _
      | refine LeO.ite ?_ ?_
      | refine LeO.bind ?_ (fun _ => ?_)
    · intro y0 y1 y2 y3 y4 y5
      unfold laws_FnFollows.l3
      repeat' first
      | (with_reducible exact ih0 _ _ _)
      | (with_reducible exact ih1 _ _ _ _ _ _)
      | (with_reducible exact ih2 _ _ _ _ _ _)
      | (with_reducible exact ih3 _ _ _ _ _)
      | (with_reducible exact ih4 _ _ _ _ _ _)
      | (with_reducible exact ih5 _ _ _ _ _ _ _)
      | (with_reducible exact ih6 _ _ _ _ _)
      | (with_reducible exact ih7 _ _ _ _)
      | (with_reducible exact ih8 _ _ _ _ _ _)
      | (with_reducible exact ih9 _ _ _ _ _)
      | (with_reducible exact ih10 _ _ _ _ _)
      | (with_reducible exact impl_BlindNumbers.mono _ _ _ _)
      | (with_reducible exact impl_DiscordOf.mono _ _ _ _)
      | (with_reducible exact impl_FollowOrders.mono _ _)
      | (with_reducible exact impl_FollowsOf.mono _ _ _)
      | (with_reducible exact impl_IsBalanced.mono _ _ _)
      | (with_reducible exact spec_BlindNumbers.mono _ _ _ _)
      | (with_reducible exact spec_DiscordOf.mono _ _ _ _)
      | (with_reducible exact spec_FollowOrders.mono _ _)
      | (with_reducible exact spec_FollowsOf.mono _ _ _)
      | (with_reducible exact spec_HasNumber.mono _ _ _)
      | (with_reducible exact spec_P6Order.mono _ _ _)
      | (with_reducible exact spec_SameNumbers.mono _ _ _)
      | (with_reducible exact spec_SameTables.mono _ _ _)
      | (with_reducible exact LeO.refl _)
      | (with_reducible exact LeO.none _)
      | (with_reducible refine LeO.ite ?_ ?_)
      | (with_reducible refine LeO.bind ?_ (fun _ => ?_))
      | exact ih0 _ _ _
      | exact ih1 _ _ _ _ _ _
      | exact ih2 _ _ _ _ _ _
      | exact ih3 _ _ _ _ _
      | exact ih4 _ _ _ _ _ _
      | exact ih5 _ _ _ _ _ _ _
      | exact ih6 _ _ _ _ _
      | exact ih7 _ _ _ _
      | exact ih8 _ _ _ _ _ _
      | exact ih9 _ _ _ _ _
      | exact ih10 _ _ _ _ _
      | exact impl_BlindNumbers.mono _ _ _ _
      | exact impl_DiscordOf.mono _ _ _ _
      | exact impl_FollowOrders.mono _ _
      | exact impl_FollowsOf.mono _ _ _
      | exact impl_IsBalanced.mono _ _ _
      | exact spec_BlindNumbers.mono _ _ _ _
      | exact spec_DiscordOf.mono _ _ _ _
      | exact spec_FollowOrders.mono _ _
      | exact spec_FollowsOf.mono _ _ _
      | exact spec_HasNumber.mono _ _ _
      | exact spec_P6Order.mono _ _ _
      | exact spec_SameNumbers.mono _ _ _
      | exact spec_SameTables.mono _ _ _
      | exact LeO.none _
      | refine LeO.ite ?_ ?_
      | refine LeO.bind ?_ (fun _ => ?_)
    · intro y0 y1 y2 y3 y4
      unfold laws_FnFollows.j9
      repeat' first
      | (with_reducible exact ih0 _ _ _)
      | (with_reducible exact ih1 _ _ _ _ _ _)
      | (with_reducible exact ih2 _ _ _ _ _ _)
      | (with_reducible exact ih3 _ _ _ _ _)
      | (with_reducible exact ih4 _ _ _ _ _ _)
      | (with_reducible exact ih5 _ _ _ _ _ _ _)
      | (with_reducible exact ih6 _ _ _ _ _)
      | (with_reducible exact ih7 _ _ _ _)
      | (with_reducible exact ih8 _ _ _ _ _ _)
      | (with_reducible exact ih9 _ _ _ _ _)
      | (with_reducible exact ih10 _ _ _ _ _)
      | (with_reducible exact impl_BlindNumbers.mono _ _ _ _)
      | (with_reducible exact impl_DiscordOf.mono _ _ _ _)
      | (with_reducible exact impl_FollowOrders.mono _ _)
      | (with_reducible exact impl_FollowsOf.mono _ _ _)
      | (with_reducible exact impl_IsBalanced.mono _ _ _)
      | (with_reducible exact spec_BlindNumbers.mono _ _ _ _)
      | (with_reducible exact spec_DiscordOf.mono _ _ _ _)
      | (with_reducible exact spec_FollowOrders.mono _ _)
      | (with_reducible exact spec_FollowsOf.mono _ _ _)
      | (with_reducible exact spec_HasNumber.mono _ _ _)
      | (with_reducible exact spec_P6Order.mono _ _ _)
      | (with_reducible exact spec_SameNumbers.mono _ _ _)
      | (with_reducible exact spec_SameTables.mono _ _ _)
      | (with_reducible exact LeO.refl _)
      | (with_reducible exact LeO.none _)
      | (with_reducible refine LeO.ite ?_ ?_)
      | (with_reducible refine LeO.bind ?_ (fun _ => ?_))
      | exact ih0 _ _ _
      | exact ih1 _ _ _ _ _ _
      | exact ih2 _ _ _ _ _ _
      | exact ih3 _ _ _ _ _
      | exact ih4 _ _ _ _ _ _
      | exact ih5 _ _ _ _ _ _ _
      | exact ih6 _ _ _ _ _
      | exact ih7 _ _ _ _
      | exact ih8 _ _ _ _ _ _
      | exact ih9 _ _ _ _ _
      | exact ih10 _ _ _ _ _
      | exact impl_BlindNumbers.mono _ _ _ _
      | exact impl_DiscordOf.mono _ _ _ _
      | exact impl_FollowOrders.mono _ _
      | exact impl_FollowsOf.mono _ _ _
      | exact impl_IsBalanced.mono _ _ _
      | exact spec_BlindNumbers.mono _ _ _ _
      | exact spec_DiscordOf.mono _ _ _ _
      | exact spec_FollowOrders.mono _ _
      | exact spec_FollowsOf.mono _ _ _
      | exact spec_HasNumber.mono _ _ _
      | exact spec_P6Order.mono _ _ _
      | exact spec_SameNumbers.mono _ _ _
      | exact spec_SameTables.mono _ _ _
      | exact LeO.none _
      | refine LeO.ite ?_ ?_
      | refine LeO.bind ?_ (fun _ => ?_)
    · intro y0 y1 y2 y3 y4
      unfold laws_FnFollows.l4
      repeat' first
      | (with_reducible exact ih0 _ _ _)
      | (with_reducible exact ih1 _ _ _ _ _ _)
      | (with_reducible exact ih2 _ _ _ _ _ _)
      | (with_reducible exact ih3 _ _ _ _ _)
      | (with_reducible exact ih4 _ _ _ _ _ _)
      | (with_reducible exact ih5 _ _ _ _ _ _ _)
      | (with_reducible exact ih6 _ _ _ _ _)
      | (with_reducible exact ih7 _ _ _ _)
      | (with_reducible exact ih8 _ _ _ _ _ _)
      | (with_reducible exact ih9 _ _ _ _ _)
      | (with_reducible exact ih10 _ _ _ _ _)
      | (with_reducible exact impl_BlindNumbers.mono _ _ _ _)
      | (with_reducible exact impl_DiscordOf.mono _ _ _ _)
      | (with_reducible exact impl_FollowOrders.mono _ _)
      | (with_reducible exact impl_FollowsOf.mono _ _ _)
      | (with_reducible exact impl_IsBalanced.mono _ _ _)
      | (with_reducible exact spec_BlindNumbers.mono _ _ _ _)
      | (with_reducible exact spec_DiscordOf.mono _ _ _ _)
      | (with_reducible exact spec_FollowOrders.mono _ _)
      | (with_reducible exact spec_FollowsOf.mono _ _ _)
      | (with_reducible exact spec_HasNumber.mono _ _ _)
      | (with_reducible exact spec_P6Order.mono _ _ _)
      | (with_reducible exact spec_SameNumbers.mono _ _ _)
      | (with_reducible exact spec_SameTables.mono _ _ _)
      | (with_reducible exact LeO.refl _)
      | (with_reducible exact LeO.none _)
      | (with_reducible refine LeO.ite ?_ ?_)
      | (with_reducible refine LeO.bind ?_ (fun _ => ?_))
      | exact ih0 _ _ _
      | exact ih1 _ _ _ _ _ _
      | exact ih2 _ _ _ _ _ _
      | exact ih3 _ _ _ _ _
      | exact ih4 _ _ _ _ _ _
      | exact ih5 _ _ _ _ _ _ _
      | exact ih6 _ _ _ _ _
      | exact ih7 _ _ _ _
      | exact ih8 _ _ _ _ _ _
      | exact ih9 _ _ _ _ _
      | exact ih10 _ _ _ _ _
      | exact impl_BlindNumbers.mono _ _ _ _
      | exact impl_DiscordOf.mono _ _ _ _
      | exact impl_FollowOrders.mono _ _
      | exact impl_FollowsOf.mono _ _ _
      | exact impl_IsBalanced.mono _ _ _
      | exact spec_BlindNumbers.mono _ _ _ _
      | exact spec_DiscordOf.mono _ _ _ _
      | exact spec_FollowOrders.mono _ _
      | exact spec_FollowsOf.mono _ _ _
      | exact spec_HasNumber.mono _ _ _
      | exact spec_P6Order.mono _ _ _
      | exact spec_SameNumbers.mono _ _ _
      | exact spec_SameTables.mono _ _ _
      | exact LeO.none _
      | refine LeO.ite ?_ ?_
      | refine LeO.bind ?_ (fun _ => ?_)
theorem laws_FnFollows.mono : ∀ a0 a1 k, LeO (laws_FnFollows.f k a0 a1) (laws_FnFollows.f (k + 1) a0 a1) := by
  intro a0 a1 k
  obtain ⟨ih0, ih1, ih2, ih3, ih4, ih5, ih6, ih7, ih8, ih9, ih10⟩ := laws_FnFollows.mono_l k
  unfold laws_FnFollows.f
  repeat' first
      | (with_reducible exact ih0 _ _ _)
      | (with_reducible exact ih1 _ _ _ _ _ _)
      | (with_reducible exact ih2 _ _ _ _ _ _)
      | (with_reducible exact ih3 _ _ _ _ _)
      | (with_reducible exact ih4 _ _ _ _ _ _)
      | (with_reducible exact ih5 _ _ _ _ _ _ _)
      | (with_reducible exact ih6 _ _ _ _ _)
      | (with_reducible exact ih7 _ _ _ _)
      | (with_reducible exact ih8 _ _ _ _ _ _)
      | (with_reducible exact ih9 _ _ _ _ _)
      | (with_reducible exact ih10 _ _ _ _ _)
      | (with_reducible exact impl_BlindNumbers.mono _ _ _ _)
      | (with_reducible exact impl_DiscordOf.mono _ _ _ _)
      | (with_reducible exact impl_FollowOrders.mono _ _)
      | (with_reducible exact impl_FollowsOf.mono _ _ _)
      | (with_reducible exact impl_IsBalanced.mono _ _ _)
      | (with_reducible exact spec_BlindNumbers.mono _ _ _ _)
      | (with_reducible exact spec_DiscordOf.mono _ _ _ _)
      | (with_reducible exact spec_FollowOrders.mono _ _)
      | (with_reducible exact spec_FollowsOf.mono _ _ _)
      | (with_reducible exact spec_HasNumber.mono _ _ _)
      | (with_reducible exact spec_P6Order.mono _ _ _)
      | (with_reducible exact spec_SameNumbers.mono _ _ _)
      | (with_reducible exact spec_SameTables.mono _ _ _)
      | (with_reducible exact LeO.refl _)
      | (with_reducible exact LeO.none _)
      | (with_reducible refine LeO.ite ?_ ?_)
      | (with_reducible refine LeO.bind ?_ (fun _ => ?_))
      | exact ih0 _ _ _
      | exact ih1 _ _ _ _ _ _
      | exact ih2 _ _ _ _ _ _
      | exact ih3 _ _ _ _ _
      | exact ih4 _ _ _ _ _ _
      | exact ih5 _ _ _ _ _ _ _
      | exact ih6 _ _ _ _ _
      | exact ih7 _ _ _ _
      | exact ih8 _ _ _ _ _ _
      | exact ih9 _ _ _ _ _
      | exact ih10 _ _ _ _ _
      | exact impl_BlindNumbers.mono _ _ _ _
      | exact impl_DiscordOf.mono _ _ _ _
      | exact impl_FollowOrders.mono _ _
      | exact impl_FollowsOf.mono _ _ _
      | exact impl_IsBalanced.mono _ _ _
      | exact spec_BlindNumbers.mono _ _ _ _
      | exact spec_DiscordOf.mono _ _ _ _
      | exact spec_FollowOrders.mono _ _
      | exact spec_FollowsOf.mono _ _ _
      | exact spec_HasNumber.mono _ _ _
      | exact spec_P6Order.mono _ _ _
      | exact spec_SameNumbers.mono _ _ _
      | exact spec_SameTables.mono _ _ _
      | exact LeO.none _
      | refine LeO.ite ?_ ?_
      | refine LeO.bind ?_ (fun _ => ?_)
def laws_FnFollows.T36 : Bool × List (List Nat × List Nat) := (true, [([], []), ([], []), ([], []), ([2], [2]), ([1, 3], [1, 3]), ([4], [4]), ([], []), ([6, 3], [6]), ([0, 5, 7, 7], [0, 5, 7]), ([8], [8]), ([9], [9]), ([9], [9]), ([10, 8, 0, 1, 2, 3, 4, 5, 6, 7, 8, 9, 10], [10]), ([11, 12, 0, 1, 2, 3, 4, 5, 6, 7, 8, 9, 10, 11, 12], [11])])
def laws_FnFollows.B36 : List Nat := [0, 0, 0, 4, 14, 30, 0, 76, 255, 511, 1023, 1023, 2047, 8191]
theorem laws_FnFollows.tab36 : rtab .any (opsOf Try.f3 36) = laws_FnFollows.T36 := by kernel_rfl
theorem laws_FnFollows.bits36 : waitsOk laws_FnFollows.T36.2 laws_FnFollows.B36 = true := by kernel_rfl
def laws_FnFollows.T37 : Bool × List (List Nat × List Nat) := (true, [([], []), ([], []), ([], []), ([2], [2]), ([1, 3], [1, 3]), ([4], [4]), ([], []), ([6, 3], [6]), ([0, 5, 7, 7], [0, 5, 7]), ([8], [8]), ([9], [9]), ([9], [9]), ([10, 8, 0, 1, 2, 3, 4, 5, 6, 7, 8, 9, 10], [10]), ([11, 12, 0, 1, 2, 3, 4, 5, 6, 7, 8, 9, 10, 11, 12], [11])])
def laws_FnFollows.B37 : List Nat := [0, 0, 0, 4, 14, 30, 0, 76, 255, 511, 1023, 1023, 2047, 8191]
theorem laws_FnFollows.tab37 : rtab .any (opsOf Try.f3 37) = laws_FnFollows.T37 := by kernel_rfl
theorem laws_FnFollows.bits37 : waitsOk laws_FnFollows.T37.2 laws_FnFollows.B37 = true := by kernel_rfl
def laws_FnFollows.T45 : Bool × List (List Nat × List Nat) := (true, [([], []), ([], []), ([0, 1], [0, 1]), ([2], [2]), ([3], [3]), ([4], [4]), ([5], [5]), ([5], [5]), ([6, 7, 5], [5, 6, 7]), ([8, 5], [5, 8]), ([9, 5], [5, 9]), ([5, 10], [5, 10]), ([11, 5], [11]), ([12], [12]), ([12], [12]), ([13, 14, 12], [12, 13, 14]), ([12], [12]), ([12], [12]), ([16, 17, 12], [12, 16, 17]), ([18, 12], [12, 18]), ([15, 19, 12, 12], [12, 15, 19]), ([12, 20], [12, 20])])
def laws_FnFollows.B45 : List Nat := [0, 0, 3, 7, 15, 31, 63, 63, 255, 511, 1023, 2047, 4095, 8191, 8191, 32767, 8191, 8191, 204799, 466943, 1048575, 2097151]
theorem laws_FnFollows.tab45 : rtab .any (opsOf Try.f3 45) = laws_FnFollows.T45 := by kernel_rfl
theorem laws_FnFollows.bits45 : waitsOk laws_FnFollows.T45.2 laws_FnFollows.B45 = true := by kernel_rfl
def laws_FnFollows.T55 : Bool × List (List Nat × List Nat) := (true, [([], []), ([], []), ([0, 1], [0, 1]), ([2], [2]), ([], []), ([], []), ([], []), ([5, 6], [5, 6]), ([7], [7]), ([4, 8], [4, 8]), ([9], [9]), ([3, 10], [3, 10])])
def laws_FnFollows.B55 : List Nat := [0, 0, 3, 7, 0, 0, 0, 96, 224, 496, 1008, 2047]
theorem laws_FnFollows.tab55 : rtab .any (opsOf Try.f3 55) = laws_FnFollows.T55 := by kernel_rfl
theorem laws_FnFollows.bits55 : waitsOk laws_FnFollows.T55.2 laws_FnFollows.B55 = true := by kernel_rfl
theorem laws_FnFollows.dead_j1 : ∀ k y0 y1 y2 y3 y4, ¬ laws_FnFollows.j1 k y0 y1 y2 y3 y4 true = some true
  | 0, _, _, _, _, _ => by simp [laws_FnFollows.j1]
  | k + 1, _, _, _, _, _ => by simp [laws_FnFollows.j1]
theorem laws_FnFollows.dead_j6 : ∀ k y0 y1 y2 y3, ¬ laws_FnFollows.j6 k y0 y1 y2 y3 true = some true
  | 0, _, _, _, _ => by simp [laws_FnFollows.j6]
  | k + 1, _, _, _, _ => by simp [laws_FnFollows.j6]
theorem laws_FnFollows.dead_j7 : ∀ k y0 y1 y2, ¬ laws_FnFollows.j7 k y0 y1 y2 true = some true
  | 0, _, _, _ => by simp [laws_FnFollows.j7]
  | k + 1, _, _, _ => by simp [laws_FnFollows.j7]
theorem laws_FnFollows.dead_j9 : ∀ k y0 y1 y2 y3, ¬ laws_FnFollows.j9 k y0 y1 y2 y3 true = some true
  | 0, _, _, _, _ => by simp [laws_FnFollows.j9]
  | k + 1, _, _, _, _ => by simp [laws_FnFollows.j9]
end Go.Proofs.Ytbhcdefemmpkpaa.G
