import Derived.Test.YtbhcdefemmpkpaaZG0
import Derived.Test.YtbhcdefemmpkpaaZFOrder
import Derived.Test.YtbhcdefemmpkpaaZFRevealO
import Derived.Test.YtbhcdefemmpkpaaZG1
import Derived.Test.YtbhcdefemmpkpaaZG2
import Derived.Test.YtbhcdefemmpkpaaZG3
import Derived.Test.YtbhcdefemmpkpaaZG4
import Derived.Test.YtbhcdefemmpkpaaZG5
import Derived.Test.YtbhcdefemmpkpaaZG6a
namespace Go.Proofs.Ytbhcdefemmpkpaa.G
open Go.RowKit Go.Proofs.YtbhcdefemmpkpaaW.PrintWords Go.Proofs.YtbhcdefemmpkpaaW.PrintLast Go.Proofs.YtbhcdefemmpkpaaW.PrintMore
attribute [local go_sem] max2_int min2_int max_two min_two max_three min_three max_four min_four
set_option linter.unusedVariables false
set_option linter.unusedSimpArgs false
attribute [local go_sem high] eqA44
set_option maxHeartbeats 200000000 in
set_option maxRecDepth 100000 in
theorem laws_FnFollows.calls (k : Nat) (A0 : Option Addr) (c0 : Nat) (l0 : List Int) (A1 : Option Addr) (c1 : Nat) (l1 : List Int) (r : Bool) (w : World) (hr0 : Kd.C (Kd.int .u8) w A0 l0.length l0) (hc0 : l0.length ≤ c0) (hr1 : Kd.C (Kd.int .u8) w A1 l1.length l1) (hc1 : l1.length ≤ c1) (h : laws_FnFollows.f k l0 l1 = some r) (hT : r = true) :
  Calls Try.prog 3 #[.slice A0 l0.length c0, .slice A1 l1.length c1] w fun e w' => e = .returned (.bool r) ∧ Below w.heap.size w w' := by
 have HT := Lib.hid hT
 clear hT; have hu44 := Try.underlying44
 have HR0 := Aside0.mk hr0; have HC0 := Aside0.mk hc0; clear hr0 hc0; have HR1 := Aside0.mk hr1; have HC1 := Aside0.mk hc1; clear hr1 hc1; have HB := Aside0.mk (Below.refl w.heap.size w)
 have H : ((laws_f6big.f l0).bind fun t353 => (if t353 = true then (laws_FnFollows.j0 k l0 l1 true) else ((laws_f6big.f l1).bind fun t354 => (laws_FnFollows.j0 k l0 l1 t354)))) = some r := h
 clear h; have HC3 := Aside0.mk H; clear H; go_enter Try.func3, Try.ntmps3
 go_upto_region 1 with (fail)
 go_cut [46] (fun v46 wc => ∃ (kq : Nat) (x46_2 : Bool), v46 = .bool x46_2 ∧ Aside0 (laws_FnFollows.j0 kq l0 l1 x46_2 = some r) ∧ Aside0 (kq ≤ k) ∧ Aside0 (Below w.heap.size w wc))
 case first =>
  refine ?g38
  let rec p38 : type_of% ?g38 := by
   clear p38; have H := HC3.out; clear HC3; replace H := Option.bind_eq_some_iff.mp H; obtain ⟨t353, A40, H⟩ := H; replace H : (if t353 = true then (laws_FnFollows.j0 k l0 l1 true) else ((laws_f6big.f l1).bind fun t354 => (laws_FnFollows.j0 k l0 l1 t354))) = some r := H
   have A4 := Aside0.mk A40; clear A40; by_cases c5 : t353 = true
   ·
    subst c5; have H1 : (laws_FnFollows.j0 k l0 l1 true) = some r := by rw [if_pos rfl] at H; exact H
    clear H; have H := H1; clear H1; have H' := Aside0.mk H; clear H; go_wp2_with (first | ((with_reducible refine gate_callee (f := 7) rfl ?_); refine goesL_ (some 42) rfl rfl Try.func7 (by kernel_rfl) rfl #[.slice A0 l0.length c0] rfl (by (try simp only [List.map_toArray, List.map_cons, List.map_nil]); first | done | rfl | (simp only [List.length_drop, List.length_take]; rfl)) ?_; (with_reducible refine (laws_f6big.calls _ _ l0 true _ ?side1 ?side2 A4.out).mono ?_); (case side1 => repeat (first | exact (Kd.C_below HR0.out HB.out) | (with_reducible refine Kd.C_alloc ?_ _) | (with_reducible refine Kd.C_drewN ?_ _) | (with_reducible refine Kd.C_drew ?_))); (case side2 => exact HC0.out); rintro e w' ⟨rfl, ⟨nd, rfl⟩⟩; refine ⟨_, rfl, ?_⟩))
    go_meet
    case rel => exact ⟨_, (true), (by first | rfl | (simp; done) | (simp [*]; done)), H', ⟨by first | omega | exact Nat.le_refl _⟩, ⟨by repeat (first | (with_reducible first | exact HB.out | apply below_alloc | apply pw_below_drewN | apply below_drew1) | exact HB.out)⟩⟩
   ·
    replace c5 := Bool.eq_false_iff.mpr c5; subst c5; have H1 : ((laws_f6big.f l1).bind fun t354 => (laws_FnFollows.j0 k l0 l1 t354)) = some r := by rw [if_neg (show ¬ (false = true) by decide)] at H; exact H
    clear H; have H := H1; clear H1; replace H := Option.bind_eq_some_iff.mp H; obtain ⟨t354, A60, H⟩ := H; replace H : (laws_FnFollows.j0 k l0 l1 t354) = some r := H
    have A6 := Aside0.mk A60; clear A60; have H' := Aside0.mk H; clear H; go_wp2_with (first | ((with_reducible refine gate_callee (f := 7) rfl ?_); refine goesL_ (some 42) rfl rfl Try.func7 (by kernel_rfl) rfl #[.slice A0 l0.length c0] rfl (by (try simp only [List.map_toArray, List.map_cons, List.map_nil]); first | done | rfl | (simp only [List.length_drop, List.length_take]; rfl)) ?_; (with_reducible refine (laws_f6big.calls _ _ l0 false _ ?side1 ?side2 A4.out).mono ?_); (case side1 => repeat (first | exact (Kd.C_below HR0.out HB.out) | (with_reducible refine Kd.C_alloc ?_ _) | (with_reducible refine Kd.C_drewN ?_ _) | (with_reducible refine Kd.C_drew ?_))); (case side2 => exact HC0.out); rintro e w' ⟨rfl, ⟨nd, rfl⟩⟩; refine ⟨_, rfl, ?_⟩) | (go_at_call 7; (with_reducible refine (laws_f6big.calls _ _ l1 t354 _ ?side1 ?side2 A6.out).mono ?_); (case side1 => repeat (first | exact (Kd.C_below HR1.out (by repeat (first | (with_reducible first | exact HB.out | apply below_alloc | apply pw_below_drewN | apply below_drew1) | exact HB.out))) | (with_reducible refine Kd.C_alloc ?_ _) | (with_reducible refine Kd.C_drewN ?_ _) | (with_reducible refine Kd.C_drew ?_))); (case side2 => exact HC1.out); rintro e w' ⟨rfl, ⟨nd, rfl⟩⟩))
    go_meet
    case rel => exact ⟨_, (t354), (by first | rfl | (simp; done) | (simp [*]; done)), H', ⟨by first | omega | exact Nat.le_refl _⟩, ⟨by repeat (first | (with_reducible first | exact HB.out | apply below_alloc | apply pw_below_drewN | apply below_drew1) | exact HB.out)⟩⟩
  exact p38
 case rest =>
  refine ?g75
  let rec p75 : type_of% ?g75 := by
   clear p75; clear HC3; try clear c1
   try clear p2
   try clear c3
   try clear c5
   obtain ⟨kq, x46_2, rfl, HA, HJ2, HB⟩ := hcut
   cases kq with
   | zero => exact absurd HA.out (by simp [laws_FnFollows.j0])
   | succ kj2 =>
    have H := HA.out; clear HA; simp only [laws_FnFollows.j0] at H
    by_cases c7 : x46_2 = true
    ·
     subst c7; have H1 : (some true) = some r := by rw [if_pos rfl] at H; exact H
     clear H; have H := H1; clear H1; obtain rfl := Option.some.inj H; go_wp2
     go_ret
     exact ⟨by first | rfl | (simp [errW_none, errW_some] <;> rfl) | (simp [*, errW_none, errW_some] <;> rfl), by repeat (first | (with_reducible first | exact HB.out | apply below_alloc | apply pw_below_drewN | apply below_drew1) | exact HB.out)⟩
    ·
     replace c7 := Bool.eq_false_iff.mpr c7; subst c7; have H1 : ((spec_P6Pick.f l0 8).bind fun t355 => ((impl_FollowOrders.f kj2 (wrap64 (1 + t355))).bind fun bt356 => ((spec_FollowOrders.f kj2 (wrap64 (1 + t355))).bind fun bt360 => ((impl_IsBalanced.f kj2 (wrap64 (1 + t355)) bt360.1).bind fun bt364 => ((impl_FollowsOf.f kj2 (wrap64 (1 + t355)) bt360.1).bind fun bt366 => ((spec_FollowsOf.f kj2 (wrap64 (1 + t355)) bt360.1).bind fun bt370 => (if bt356.2 = bt360.2 then (if bt356.2 = 0 then ((spec_SameTables.f kj2 bt356.1 bt360.1).bind fun t374 => (if t374 = true then (if bt364.2 = 0 then (if bt364.1 = true then (if bt366.2 = bt370.2 then (if bt366.2 = 0 then ((spec_SameTables.f kj2 bt366.1 bt370.1).bind fun t375 => (if t375 = true then (if (bt360.1.length : Int) = 0 then (laws_FnFollows.j1 kj2 l0 l1 (wrap64 (1 + t355)) bt360.1 bt370.1 true) else (laws_FnFollows.j1 kj2 l0 l1 (wrap64 (1 + t355)) bt360.1 bt370.1 ((bt370.1.length : Int) != (wrap64 (1 + t355))))) else (laws_FnFollows.j1 kj2 l0 l1 (wrap64 (1 + t355)) bt360.1 bt370.1 true))) else (laws_FnFollows.j1 kj2 l0 l1 (wrap64 (1 + t355)) bt360.1 bt370.1 true)) else (laws_FnFollows.j1 kj2 l0 l1 (wrap64 (1 + t355)) bt360.1 bt370.1 true)) else (laws_FnFollows.j1 kj2 l0 l1 (wrap64 (1 + t355)) bt360.1 bt370.1 true)) else (laws_FnFollows.j1 kj2 l0 l1 (wrap64 (1 + t355)) bt360.1 bt370.1 true)) else (laws_FnFollows.j1 kj2 l0 l1 (wrap64 (1 + t355)) bt360.1 bt370.1 true))) else (laws_FnFollows.j1 kj2 l0 l1 (wrap64 (1 + t355)) bt360.1 bt370.1 true)) else (laws_FnFollows.j1 kj2 l0 l1 (wrap64 (1 + t355)) bt360.1 bt370.1 true)))))))) = some r := by rw [if_neg (show ¬ (false = true) by decide)] at H; exact H
     clear H; have H := H1; clear H1; replace H := Option.bind_eq_some_iff.mp H; obtain ⟨t355, A80, H⟩ := H; replace H : ((impl_FollowOrders.f kj2 (wrap64 (1 + t355))).bind fun bt356 => ((spec_FollowOrders.f kj2 (wrap64 (1 + t355))).bind fun bt360 => ((impl_IsBalanced.f kj2 (wrap64 (1 + t355)) bt360.1).bind fun bt364 => ((impl_FollowsOf.f kj2 (wrap64 (1 + t355)) bt360.1).bind fun bt366 => ((spec_FollowsOf.f kj2 (wrap64 (1 + t355)) bt360.1).bind fun bt370 => (if bt356.2 = bt360.2 then (if bt356.2 = 0 then ((spec_SameTables.f kj2 bt356.1 bt360.1).bind fun t374 => (if t374 = true then (if bt364.2 = 0 then (if bt364.1 = true then (if bt366.2 = bt370.2 then (if bt366.2 = 0 then ((spec_SameTables.f kj2 bt366.1 bt370.1).bind fun t375 => (if t375 = true then (if (bt360.1.length : Int) = 0 then (laws_FnFollows.j1 kj2 l0 l1 (wrap64 (1 + t355)) bt360.1 bt370.1 true) else (laws_FnFollows.j1 kj2 l0 l1 (wrap64 (1 + t355)) bt360.1 bt370.1 ((bt370.1.length : Int) != (wrap64 (1 + t355))))) else (laws_FnFollows.j1 kj2 l0 l1 (wrap64 (1 + t355)) bt360.1 bt370.1 true))) else (laws_FnFollows.j1 kj2 l0 l1 (wrap64 (1 + t355)) bt360.1 bt370.1 true)) else (laws_FnFollows.j1 kj2 l0 l1 (wrap64 (1 + t355)) bt360.1 bt370.1 true)) else (laws_FnFollows.j1 kj2 l0 l1 (wrap64 (1 + t355)) bt360.1 bt370.1 true)) else (laws_FnFollows.j1 kj2 l0 l1 (wrap64 (1 + t355)) bt360.1 bt370.1 true)) else (laws_FnFollows.j1 kj2 l0 l1 (wrap64 (1 + t355)) bt360.1 bt370.1 true))) else (laws_FnFollows.j1 kj2 l0 l1 (wrap64 (1 + t355)) bt360.1 bt370.1 true)) else (laws_FnFollows.j1 kj2 l0 l1 (wrap64 (1 + t355)) bt360.1 bt370.1 true))))))) = some r := H
     have A8 := Aside0.mk A80; clear A80; replace H := Option.bind_eq_some_iff.mp H; obtain ⟨⟨t356, t357⟩, A90, H⟩ := H; replace H : ((spec_FollowOrders.f kj2 (wrap64 (1 + t355))).bind fun bt360 => ((impl_IsBalanced.f kj2 (wrap64 (1 + t355)) bt360.1).bind fun bt364 => ((impl_FollowsOf.f kj2 (wrap64 (1 + t355)) bt360.1).bind fun bt366 => ((spec_FollowsOf.f kj2 (wrap64 (1 + t355)) bt360.1).bind fun bt370 => (if t357 = bt360.2 then (if t357 = 0 then ((spec_SameTables.f kj2 t356 bt360.1).bind fun t374 => (if t374 = true then (if bt364.2 = 0 then (if bt364.1 = true then (if bt366.2 = bt370.2 then (if bt366.2 = 0 then ((spec_SameTables.f kj2 bt366.1 bt370.1).bind fun t375 => (if t375 = true then (if (bt360.1.length : Int) = 0 then (laws_FnFollows.j1 kj2 l0 l1 (wrap64 (1 + t355)) bt360.1 bt370.1 true) else (laws_FnFollows.j1 kj2 l0 l1 (wrap64 (1 + t355)) bt360.1 bt370.1 ((bt370.1.length : Int) != (wrap64 (1 + t355))))) else (laws_FnFollows.j1 kj2 l0 l1 (wrap64 (1 + t355)) bt360.1 bt370.1 true))) else (laws_FnFollows.j1 kj2 l0 l1 (wrap64 (1 + t355)) bt360.1 bt370.1 true)) else (laws_FnFollows.j1 kj2 l0 l1 (wrap64 (1 + t355)) bt360.1 bt370.1 true)) else (laws_FnFollows.j1 kj2 l0 l1 (wrap64 (1 + t355)) bt360.1 bt370.1 true)) else (laws_FnFollows.j1 kj2 l0 l1 (wrap64 (1 + t355)) bt360.1 bt370.1 true)) else (laws_FnFollows.j1 kj2 l0 l1 (wrap64 (1 + t355)) bt360.1 bt370.1 true))) else (laws_FnFollows.j1 kj2 l0 l1 (wrap64 (1 + t355)) bt360.1 bt370.1 true)) else (laws_FnFollows.j1 kj2 l0 l1 (wrap64 (1 + t355)) bt360.1 bt370.1 true)))))) = some r := H
     have A9 := Aside0.mk A90; clear A90; replace H := Option.bind_eq_some_iff.mp H; obtain ⟨⟨t360, t361⟩, A100, H⟩ := H; replace H : ((impl_IsBalanced.f kj2 (wrap64 (1 + t355)) t360).bind fun bt364 => ((impl_FollowsOf.f kj2 (wrap64 (1 + t355)) t360).bind fun bt366 => ((spec_FollowsOf.f kj2 (wrap64 (1 + t355)) t360).bind fun bt370 => (if t357 = t361 then (if t357 = 0 then ((spec_SameTables.f kj2 t356 t360).bind fun t374 => (if t374 = true then (if bt364.2 = 0 then (if bt364.1 = true then (if bt366.2 = bt370.2 then (if bt366.2 = 0 then ((spec_SameTables.f kj2 bt366.1 bt370.1).bind fun t375 => (if t375 = true then (if (t360.length : Int) = 0 then (laws_FnFollows.j1 kj2 l0 l1 (wrap64 (1 + t355)) t360 bt370.1 true) else (laws_FnFollows.j1 kj2 l0 l1 (wrap64 (1 + t355)) t360 bt370.1 ((bt370.1.length : Int) != (wrap64 (1 + t355))))) else (laws_FnFollows.j1 kj2 l0 l1 (wrap64 (1 + t355)) t360 bt370.1 true))) else (laws_FnFollows.j1 kj2 l0 l1 (wrap64 (1 + t355)) t360 bt370.1 true)) else (laws_FnFollows.j1 kj2 l0 l1 (wrap64 (1 + t355)) t360 bt370.1 true)) else (laws_FnFollows.j1 kj2 l0 l1 (wrap64 (1 + t355)) t360 bt370.1 true)) else (laws_FnFollows.j1 kj2 l0 l1 (wrap64 (1 + t355)) t360 bt370.1 true)) else (laws_FnFollows.j1 kj2 l0 l1 (wrap64 (1 + t355)) t360 bt370.1 true))) else (laws_FnFollows.j1 kj2 l0 l1 (wrap64 (1 + t355)) t360 bt370.1 true)) else (laws_FnFollows.j1 kj2 l0 l1 (wrap64 (1 + t355)) t360 bt370.1 true))))) = some r := H
     have A10 := Aside0.mk A100; clear A100; replace H := Option.bind_eq_some_iff.mp H; obtain ⟨⟨t364, t365⟩, A110, H⟩ := H; replace H : ((impl_FollowsOf.f kj2 (wrap64 (1 + t355)) t360).bind fun bt366 => ((spec_FollowsOf.f kj2 (wrap64 (1 + t355)) t360).bind fun bt370 => (if t357 = t361 then (if t357 = 0 then ((spec_SameTables.f kj2 t356 t360).bind fun t374 => (if t374 = true then (if t365 = 0 then (if t364 = true then (if bt366.2 = bt370.2 then (if bt366.2 = 0 then ((spec_SameTables.f kj2 bt366.1 bt370.1).bind fun t375 => (if t375 = true then (if (t360.length : Int) = 0 then (laws_FnFollows.j1 kj2 l0 l1 (wrap64 (1 + t355)) t360 bt370.1 true) else (laws_FnFollows.j1 kj2 l0 l1 (wrap64 (1 + t355)) t360 bt370.1 ((bt370.1.length : Int) != (wrap64 (1 + t355))))) else (laws_FnFollows.j1 kj2 l0 l1 (wrap64 (1 + t355)) t360 bt370.1 true))) else (laws_FnFollows.j1 kj2 l0 l1 (wrap64 (1 + t355)) t360 bt370.1 true)) else (laws_FnFollows.j1 kj2 l0 l1 (wrap64 (1 + t355)) t360 bt370.1 true)) else (laws_FnFollows.j1 kj2 l0 l1 (wrap64 (1 + t355)) t360 bt370.1 true)) else (laws_FnFollows.j1 kj2 l0 l1 (wrap64 (1 + t355)) t360 bt370.1 true)) else (laws_FnFollows.j1 kj2 l0 l1 (wrap64 (1 + t355)) t360 bt370.1 true))) else (laws_FnFollows.j1 kj2 l0 l1 (wrap64 (1 + t355)) t360 bt370.1 true)) else (laws_FnFollows.j1 kj2 l0 l1 (wrap64 (1 + t355)) t360 bt370.1 true)))) = some r := H
     have A11 := Aside0.mk A110; clear A110; replace H := Option.bind_eq_some_iff.mp H; obtain ⟨⟨t366, t367⟩, A120, H⟩ := H; replace H : ((spec_FollowsOf.f kj2 (wrap64 (1 + t355)) t360).bind fun bt370 => (if t357 = t361 then (if t357 = 0 then ((spec_SameTables.f kj2 t356 t360).bind fun t374 => (if t374 = true then (if t365 = 0 then (if t364 = true then (if t367 = bt370.2 then (if t367 = 0 then ((spec_SameTables.f kj2 t366 bt370.1).bind fun t375 => (if t375 = true then (if (t360.length : Int) = 0 then (laws_FnFollows.j1 kj2 l0 l1 (wrap64 (1 + t355)) t360 bt370.1 true) else (laws_FnFollows.j1 kj2 l0 l1 (wrap64 (1 + t355)) t360 bt370.1 ((bt370.1.length : Int) != (wrap64 (1 + t355))))) else (laws_FnFollows.j1 kj2 l0 l1 (wrap64 (1 + t355)) t360 bt370.1 true))) else (laws_FnFollows.j1 kj2 l0 l1 (wrap64 (1 + t355)) t360 bt370.1 true)) else (laws_FnFollows.j1 kj2 l0 l1 (wrap64 (1 + t355)) t360 bt370.1 true)) else (laws_FnFollows.j1 kj2 l0 l1 (wrap64 (1 + t355)) t360 bt370.1 true)) else (laws_FnFollows.j1 kj2 l0 l1 (wrap64 (1 + t355)) t360 bt370.1 true)) else (laws_FnFollows.j1 kj2 l0 l1 (wrap64 (1 + t355)) t360 bt370.1 true))) else (laws_FnFollows.j1 kj2 l0 l1 (wrap64 (1 + t355)) t360 bt370.1 true)) else (laws_FnFollows.j1 kj2 l0 l1 (wrap64 (1 + t355)) t360 bt370.1 true))) = some r := H
     have A12 := Aside0.mk A120; clear A120; replace H := Option.bind_eq_some_iff.mp H; obtain ⟨⟨t370, t371⟩, A130, H⟩ := H; replace H : (if t357 = t361 then (if t357 = 0 then ((spec_SameTables.f kj2 t356 t360).bind fun t374 => (if t374 = true then (if t365 = 0 then (if t364 = true then (if t367 = t371 then (if t367 = 0 then ((spec_SameTables.f kj2 t366 t370).bind fun t375 => (if t375 = true then (if (t360.length : Int) = 0 then (laws_FnFollows.j1 kj2 l0 l1 (wrap64 (1 + t355)) t360 t370 true) else (laws_FnFollows.j1 kj2 l0 l1 (wrap64 (1 + t355)) t360 t370 ((t370.length : Int) != (wrap64 (1 + t355))))) else (laws_FnFollows.j1 kj2 l0 l1 (wrap64 (1 + t355)) t360 t370 true))) else (laws_FnFollows.j1 kj2 l0 l1 (wrap64 (1 + t355)) t360 t370 true)) else (laws_FnFollows.j1 kj2 l0 l1 (wrap64 (1 + t355)) t360 t370 true)) else (laws_FnFollows.j1 kj2 l0 l1 (wrap64 (1 + t355)) t360 t370 true)) else (laws_FnFollows.j1 kj2 l0 l1 (wrap64 (1 + t355)) t360 t370 true)) else (laws_FnFollows.j1 kj2 l0 l1 (wrap64 (1 + t355)) t360 t370 true))) else (laws_FnFollows.j1 kj2 l0 l1 (wrap64 (1 + t355)) t360 t370 true)) else (laws_FnFollows.j1 kj2 l0 l1 (wrap64 (1 + t355)) t360 t370 true)) = some r := H
     have A13 := Aside0.mk A130; clear A130; have HC14 := Aside0.mk H; clear H; go_upto_region 9 with (first | ((with_reducible refine gate_callee (f := 8) rfl ?_); refine goesL_ (some 48) rfl rfl Try.func8 (by kernel_rfl) rfl #[.slice A0 l0.length c0, .int .i64 8] rfl (by (try simp only [List.map_toArray, List.map_cons, List.map_nil]); first | done | rfl | (simp only [List.length_drop, List.length_take]; rfl)) ?_; (with_reducible refine (spec_P6Pick.calls _ _ l0 8 t355 _ ?side1 ?side2 A8.out).mono ?_); (case side1 => repeat (first | exact (Kd.C_below HR0.out HB.out) | (with_reducible refine Kd.C_alloc ?_ _) | (with_reducible refine Kd.C_drewN ?_ _) | (with_reducible refine Kd.C_drew ?_))); (case side2 => exact HC0.out); rintro e w15 ⟨rfl, hb⟩; refine ⟨_, rfl, ?_⟩; have n0_ := Aside0.mk (below_step (by repeat (first | (with_reducible first | exact HB.out | apply below_alloc | apply pw_below_drewN | apply below_drew1) | exact HB.out)) hb); clear HB; have HB := n0_; clear n0_; (try clear hb); (try clear hb2); (try clear hk); (try clear hi)) | ((with_reducible refine gate_callee (f := 9) rfl ?_); refine goesL_ (some 52) rfl rfl Try.func9 (by kernel_rfl) rfl #[.int .i64 (wrap64 (1 + t355))] rfl (by (try simp only [List.map_toArray, List.map_cons, List.map_nil]); first | done | rfl | (simp only [List.length_drop, List.length_take]; rfl)) ?_; (with_reducible refine (impl_FollowOrders.calls kj2 (wrap64 (1 + t355)) t356 t357 _ A9.out).mono ?_); rintro e w16 ⟨v358, rfl, ho0, hb⟩; refine ⟨_, rfl, ?_⟩; have n0_ := Aside0.mk (Kd.S_lower ho0 (below_size (by repeat (first | (with_reducible first | exact HB.out | apply below_alloc | apply pw_below_drewN | apply below_drew1) | exact HB.out)))); have n1_ := Aside0.mk (below_step (by repeat (first | (with_reducible first | exact HB.out | apply below_alloc | apply pw_below_drewN | apply below_drew1) | exact HB.out)) hb); clear HB; have HO359 := n0_; have HB := n1_; clear n0_ n1_; (try clear hb); (try clear hb2); (try clear hk); (try clear hi); (try clear ho0)) | ((with_reducible refine gate_callee (f := 10) rfl ?_); refine goesL_ (some 57) rfl rfl Try.func10 (by kernel_rfl) rfl #[.int .i64 (wrap64 (1 + t355))] rfl (by (try simp only [List.map_toArray, List.map_cons, List.map_nil]); first | done | rfl | (simp only [List.length_drop, List.length_take]; rfl)) ?_; (with_reducible refine (spec_FollowOrders.calls kj2 (wrap64 (1 + t355)) t360 t361 _ A10.out).mono ?_); rintro e w17 ⟨v362, rfl, ho0, hb⟩; refine ⟨_, rfl, ?_⟩; have n0_ := Aside0.mk (Kd.S_elder' (by (with_reducible repeat (first | apply Kd.S_alloc | apply Kd.S_drewN | apply Kd.S_drew)); exact HO359.out) (Kd.S_base ho0) hb); have n1_ := Aside0.mk (Kd.S_lower (Kd.S_new' ho0 (Kd.S_lt (by (with_reducible repeat (first | apply Kd.S_alloc | apply Kd.S_drewN | apply Kd.S_drew)); exact HO359.out))) (below_size (by repeat (first | (with_reducible first | exact HB.out | apply below_alloc | apply pw_below_drewN | apply below_drew1) | exact HB.out)))); have n2_ := Aside0.mk (below_step (by repeat (first | (with_reducible first | exact HB.out | apply below_alloc | apply pw_below_drewN | apply below_drew1) | exact HB.out)) hb); clear HO359; clear HB; have HO359 := n0_; have HO363 := n1_; have HB := n2_; clear n0_ n1_ n2_; (try clear hb); (try clear hb2); (try clear hk); (try clear hi); (try clear ho0); obtain ⟨Ao18, co18, eo18⟩ := Kd.S_slice HO363.out; subst eo18) | ((with_reducible refine gate_callee (f := 11) rfl ?_); refine goesL_ (some 63) rfl rfl Try.func11 (by kernel_rfl) rfl #[.int .i64 (wrap64 (1 + t355)), .slice Ao18 t360.length co18] rfl (by (try simp only [List.map_toArray, List.map_cons, List.map_nil]); first | done | rfl | (simp only [List.length_drop, List.length_take]; rfl)) ?_; (with_reducible refine (impl_IsBalanced.calls kj2 (wrap64 (1 + t355)) _ _ t360 t364 t365 _ ?side1 ?side2 A11.out).mono ?_); (case side1 => repeat (first | exact (Kd.S_reads' HO363.out).2.2 | (with_reducible refine Kd.C_alloc ?_ _) | (with_reducible refine Kd.C_drewN ?_ _) | (with_reducible refine Kd.C_drew ?_))); (case side2 => exact (Kd.S_reads' HO363.out).2.1); rintro e w19 ⟨rfl, hb⟩; refine ⟨_, rfl, ?_⟩; have n0_ := Aside0.mk (Kd.S_below (by (with_reducible repeat (first | apply Kd.S_alloc | apply Kd.S_drewN | apply Kd.S_drew)); exact HO359.out) hb); have n1_ := Aside0.mk (Kd.S_below (by (with_reducible repeat (first | apply Kd.S_alloc | apply Kd.S_drewN | apply Kd.S_drew)); exact HO363.out) hb); have n2_ := Aside0.mk (below_step (by repeat (first | (with_reducible first | exact HB.out | apply below_alloc | apply pw_below_drewN | apply below_drew1) | exact HB.out)) hb); clear HO359; clear HO363; clear HB; have HO359 := n0_; have HO363 := n1_; have HB := n2_; clear n0_ n1_ n2_; (try clear hb); (try clear hb2); (try clear hk); (try clear hi)) | ((with_reducible refine gate_callee (f := 12) rfl ?_); refine goesL_ (some 69) rfl rfl Try.func12 (by kernel_rfl) rfl #[.int .i64 (wrap64 (1 + t355)), .slice Ao18 t360.length co18] rfl (by (try simp only [List.map_toArray, List.map_cons, List.map_nil]); first | done | rfl | (simp only [List.length_drop, List.length_take]; rfl)) ?_; (with_reducible refine (impl_FollowsOf.calls kj2 (wrap64 (1 + t355)) _ _ t360 t366 t367 _ ?side1 ?side2 A12.out).mono ?_); (case side1 => repeat (first | exact (Kd.S_reads' HO363.out).2.2 | (with_reducible refine Kd.C_alloc ?_ _) | (with_reducible refine Kd.C_drewN ?_ _) | (with_reducible refine Kd.C_drew ?_))); (case side2 => exact (Kd.S_reads' HO363.out).2.1); rintro e w20 ⟨v368, rfl, ho0, hb⟩; refine ⟨_, rfl, ?_⟩; have n0_ := Aside0.mk (Kd.S_elder' (by (with_reducible repeat (first | apply Kd.S_alloc | apply Kd.S_drewN | apply Kd.S_drew)); exact HO359.out) (Kd.S_base ho0) hb); have n1_ := Aside0.mk (Kd.S_elder' (by (with_reducible repeat (first | apply Kd.S_alloc | apply Kd.S_drewN | apply Kd.S_drew)); exact HO363.out) (Kd.S_base ho0) hb); have n2_ := Aside0.mk (Kd.S_lower (Kd.S_new' (Kd.S_new' ho0 (Kd.S_lt (by (with_reducible repeat (first | apply Kd.S_alloc | apply Kd.S_drewN | apply Kd.S_drew)); exact HO359.out))) (Kd.S_lt (by (with_reducible repeat (first | apply Kd.S_alloc | apply Kd.S_drewN | apply Kd.S_drew)); exact HO363.out))) (below_size (by repeat (first | (with_reducible first | exact HB.out | apply below_alloc | apply pw_below_drewN | apply below_drew1) | exact HB.out)))); have n3_ := Aside0.mk (below_step (by repeat (first | (with_reducible first | exact HB.out | apply below_alloc | apply pw_below_drewN | apply below_drew1) | exact HB.out)) hb); clear HO359; clear HO363; clear HB; have HO359 := n0_; have HO363 := n1_; have HO369 := n2_; have HB := n3_; clear n0_ n1_ n2_ n3_; (try clear hb); (try clear hb2); (try clear hk); (try clear hi); (try clear ho0)) | ((with_reducible refine gate_callee (f := 13) rfl ?_); refine goesL_ (some 75) rfl rfl Try.func13 (by kernel_rfl) rfl #[.int .i64 (wrap64 (1 + t355)), .slice Ao18 t360.length co18] rfl (by (try simp only [List.map_toArray, List.map_cons, List.map_nil]); first | done | rfl | (simp only [List.length_drop, List.length_take]; rfl)) ?_; (with_reducible refine (spec_FollowsOf.calls kj2 (wrap64 (1 + t355)) _ _ t360 t370 t371 _ ?side1 ?side2 A13.out).mono ?_); (case side1 => repeat (first | exact (Kd.S_reads' HO363.out).2.2 | (with_reducible refine Kd.C_alloc ?_ _) | (with_reducible refine Kd.C_drewN ?_ _) | (with_reducible refine Kd.C_drew ?_))); (case side2 => exact (Kd.S_reads' HO363.out).2.1); rintro e w21 ⟨v372, rfl, ho0, hb⟩; refine ⟨_, rfl, ?_⟩; have n0_ := Aside0.mk (Kd.S_elder' (by (with_reducible repeat (first | apply Kd.S_alloc | apply Kd.S_drewN | apply Kd.S_drew)); exact HO359.out) (Kd.S_base ho0) hb); have n1_ := Aside0.mk (Kd.S_elder' (by (with_reducible repeat (first | apply Kd.S_alloc | apply Kd.S_drewN | apply Kd.S_drew)); exact HO363.out) (Kd.S_base ho0) hb); have n2_ := Aside0.mk (Kd.S_elder' (by (with_reducible repeat (first | apply Kd.S_alloc | apply Kd.S_drewN | apply Kd.S_drew)); exact HO369.out) (Kd.S_base ho0) hb); have n3_ := Aside0.mk (Kd.S_lower (Kd.S_new' (Kd.S_new' (Kd.S_new' ho0 (Kd.S_lt (by (with_reducible repeat (first | apply Kd.S_alloc | apply Kd.S_drewN | apply Kd.S_drew)); exact HO359.out))) (Kd.S_lt (by (with_reducible repeat (first | apply Kd.S_alloc | apply Kd.S_drewN | apply Kd.S_drew)); exact HO363.out))) (Kd.S_lt (by (with_reducible repeat (first | apply Kd.S_alloc | apply Kd.S_drewN | apply Kd.S_drew)); exact HO369.out))) (below_size (by repeat (first | (with_reducible first | exact HB.out | apply below_alloc | apply pw_below_drewN | apply below_drew1) | exact HB.out)))); have n4_ := Aside0.mk (below_step (by repeat (first | (with_reducible first | exact HB.out | apply below_alloc | apply pw_below_drewN | apply below_drew1) | exact HB.out)) hb); clear HO359; clear HO363; clear HO369; clear HB; have HO359 := n0_; have HO363 := n1_; have HO369 := n2_; have HO373 := n3_; have HB := n4_; clear n0_ n1_ n2_ n3_ n4_; (try clear hb); (try clear hb2); (try clear hk); (try clear hi); (try clear ho0)))
     (try simp only [Act.put, List.setIfInBounds_toArray, List.set_cons_zero, List.set_cons_succ])
     go_cut [124] (fun v124 wc => ∃ (kq : Nat) (x124_13 : Bool), v124 = .bool x124_13 ∧ Aside0 (laws_FnFollows.j1 kq l0 l1 (wrap64 (1 + t355)) t360 t370 x124_13 = some r) ∧ Aside0 (kq ≤ kj2) ∧ Aside0 (Kd.S (Kd.slice 2 (Kd.int .i64)) 33 wc w.heap.size (fun k_ => some k_ ≠ (v372 : Value).ownBlock) (.slice Ao18 t360.length co18) t360) ∧ Aside0 (Kd.S (Kd.slice 2 (Kd.int .i64)) 33 wc w.heap.size (fun k_ => some k_ ≠ ((.slice Ao18 t360.length co18) : Value).ownBlock) v372 t370) ∧ Aside0 (Below w.heap.size w wc))
     case first =>
      refine ?g141
      let rec p141 : type_of% ?g141 := by
       clear p141; have H := HC14.out; clear HC14; by_cases c22 : t357 = t361
       ·
        rw [if_pos c22] at H; have c22b0 : (t357 == t361) = true := beq_iff_eq.mpr c22; have c22b1 : (t357 != t361) = false := bne_eq_false_iff_eq.mpr c22; clear c22; (first | rw [c22b0] | (simp only [i64_w, i32_w]; rw [c22b0]) | skip)
        by_cases c23 : t357 = 0
        ·
         rw [if_pos c23] at H; have c23b0 : (t357 == 0) = true := beq_iff_eq.mpr c23; have c23b1 : (t357 != 0) = false := bne_eq_false_iff_eq.mpr c23; clear c23; replace H := Option.bind_eq_some_iff.mp H; obtain ⟨t374, A240, H⟩ := H; replace H : (if t374 = true then (if t365 = 0 then (if t364 = true then (if t367 = t371 then (if t367 = 0 then ((spec_SameTables.f kj2 t366 t370).bind fun t375 => (if t375 = true then (if (t360.length : Int) = 0 then (laws_FnFollows.j1 kj2 l0 l1 (wrap64 (1 + t355)) t360 t370 true) else (laws_FnFollows.j1 kj2 l0 l1 (wrap64 (1 + t355)) t360 t370 ((t370.length : Int) != (wrap64 (1 + t355))))) else (laws_FnFollows.j1 kj2 l0 l1 (wrap64 (1 + t355)) t360 t370 true))) else (laws_FnFollows.j1 kj2 l0 l1 (wrap64 (1 + t355)) t360 t370 true)) else (laws_FnFollows.j1 kj2 l0 l1 (wrap64 (1 + t355)) t360 t370 true)) else (laws_FnFollows.j1 kj2 l0 l1 (wrap64 (1 + t355)) t360 t370 true)) else (laws_FnFollows.j1 kj2 l0 l1 (wrap64 (1 + t355)) t360 t370 true)) else (laws_FnFollows.j1 kj2 l0 l1 (wrap64 (1 + t355)) t360 t370 true)) = some r := H
         have A24 := Aside0.mk A240; clear A240; by_cases c25 : t374 = true
         ·
          subst c25; have H1 : (if t365 = 0 then (if t364 = true then (if t367 = t371 then (if t367 = 0 then ((spec_SameTables.f kj2 t366 t370).bind fun t375 => (if t375 = true then (if (t360.length : Int) = 0 then (laws_FnFollows.j1 kj2 l0 l1 (wrap64 (1 + t355)) t360 t370 true) else (laws_FnFollows.j1 kj2 l0 l1 (wrap64 (1 + t355)) t360 t370 ((t370.length : Int) != (wrap64 (1 + t355))))) else (laws_FnFollows.j1 kj2 l0 l1 (wrap64 (1 + t355)) t360 t370 true))) else (laws_FnFollows.j1 kj2 l0 l1 (wrap64 (1 + t355)) t360 t370 true)) else (laws_FnFollows.j1 kj2 l0 l1 (wrap64 (1 + t355)) t360 t370 true)) else (laws_FnFollows.j1 kj2 l0 l1 (wrap64 (1 + t355)) t360 t370 true)) else (laws_FnFollows.j1 kj2 l0 l1 (wrap64 (1 + t355)) t360 t370 true)) = some r := by rw [if_pos rfl] at H; exact H
          clear H; have H := H1; clear H1; by_cases c26 : t365 = 0
          ·
           rw [if_pos c26] at H; have c26b0 : (t365 == 0) = true := beq_iff_eq.mpr c26; have c26b1 : (t365 != 0) = false := bne_eq_false_iff_eq.mpr c26; clear c26; by_cases c27 : t364 = true
           ·
            subst c27; have H1 : (if t367 = t371 then (if t367 = 0 then ((spec_SameTables.f kj2 t366 t370).bind fun t375 => (if t375 = true then (if (t360.length : Int) = 0 then (laws_FnFollows.j1 kj2 l0 l1 (wrap64 (1 + t355)) t360 t370 true) else (laws_FnFollows.j1 kj2 l0 l1 (wrap64 (1 + t355)) t360 t370 ((t370.length : Int) != (wrap64 (1 + t355))))) else (laws_FnFollows.j1 kj2 l0 l1 (wrap64 (1 + t355)) t360 t370 true))) else (laws_FnFollows.j1 kj2 l0 l1 (wrap64 (1 + t355)) t360 t370 true)) else (laws_FnFollows.j1 kj2 l0 l1 (wrap64 (1 + t355)) t360 t370 true)) = some r := by rw [if_pos rfl] at H; exact H
            clear H; have H := H1; clear H1; by_cases c28 : t367 = t371
            ·
             rw [if_pos c28] at H; have c28b0 : (t367 == t371) = true := beq_iff_eq.mpr c28; have c28b1 : (t367 != t371) = false := bne_eq_false_iff_eq.mpr c28; clear c28; by_cases c29 : t367 = 0
             ·
              rw [if_pos c29] at H; have c29b0 : (t367 == 0) = true := beq_iff_eq.mpr c29; have c29b1 : (t367 != 0) = false := bne_eq_false_iff_eq.mpr c29; clear c29; replace H := Option.bind_eq_some_iff.mp H; obtain ⟨t375, A300, H⟩ := H; replace H : (if t375 = true then (if (t360.length : Int) = 0 then (laws_FnFollows.j1 kj2 l0 l1 (wrap64 (1 + t355)) t360 t370 true) else (laws_FnFollows.j1 kj2 l0 l1 (wrap64 (1 + t355)) t360 t370 ((t370.length : Int) != (wrap64 (1 + t355))))) else (laws_FnFollows.j1 kj2 l0 l1 (wrap64 (1 + t355)) t360 t370 true)) = some r := H
              have A30 := Aside0.mk A300; clear A300; by_cases c31 : t375 = true
              ·
               subst c31; have H1 : (if (t360.length : Int) = 0 then (laws_FnFollows.j1 kj2 l0 l1 (wrap64 (1 + t355)) t360 t370 true) else (laws_FnFollows.j1 kj2 l0 l1 (wrap64 (1 + t355)) t360 t370 ((t370.length : Int) != (wrap64 (1 + t355))))) = some r := by rw [if_pos rfl] at H; exact H
               clear H; have H := H1; clear H1; by_cases c32 : (t360.length : Int) = 0
               ·
                rw [if_pos c32] at H; have c32b0 : ((t360.length : Int) == 0) = true := beq_iff_eq.mpr c32; have c32b1 : ((t360.length : Int) != 0) = false := bne_eq_false_iff_eq.mpr c32; clear c32; exact absurd (H.trans (congrArg some HT.out)) (laws_FnFollows.dead_j1 _ _ _ _ _ _)
               ·
                rw [if_neg c32] at H; have c32b0 : ((t360.length : Int) == 0) = false := beq_eq_false_iff_ne.mpr c32; have c32b1 : ((t360.length : Int) != 0) = true := bne_iff_ne.mpr c32; have c32b2 : ¬ (t360 = []) := fun h_ => c32 (by rw [h_]; rfl)
                have H' := Aside0.mk H; clear H; obtain ⟨Ao36, co36, eo36⟩ := Kd.S_slice HO359.out
                subst eo36; go_wp2_with (first | (go_at_call 14; (with_reducible refine (spec_SameTables.calls kj2 _ _ t356 _ _ t360 true _ ?side1 ?side2 ?side3 ?side4 A24.out).mono ?_); (case side1 => repeat (first | exact (Kd.S_reads' HO359.out).2.2 | (with_reducible refine Kd.C_alloc ?_ _) | (with_reducible refine Kd.C_drewN ?_ _) | (with_reducible refine Kd.C_drew ?_))); (case side2 => exact (Kd.S_reads' HO359.out).2.1); (case side3 => repeat (first | exact (Kd.S_reads' HO363.out).2.2 | (with_reducible refine Kd.C_alloc ?_ _) | (with_reducible refine Kd.C_drewN ?_ _) | (with_reducible refine Kd.C_drew ?_))); (case side4 => exact (Kd.S_reads' HO363.out).2.1); rintro e w' ⟨rfl, ⟨nd, rfl⟩⟩; obtain ⟨Ao37, co37, eo37⟩ := Kd.S_slice HO369.out; subst eo37; obtain ⟨Ao38, co38, eo38⟩ := Kd.S_slice HO373.out; subst eo38) | (go_at_call 14; (with_reducible refine (spec_SameTables.calls kj2 _ _ t366 _ _ t370 true _ ?side1 ?side2 ?side3 ?side4 A30.out).mono ?_); (case side1 => repeat (first | exact (Kd.S_reads' HO369.out).2.2 | (with_reducible refine Kd.C_alloc ?_ _) | (with_reducible refine Kd.C_drewN ?_ _) | (with_reducible refine Kd.C_drew ?_))); (case side2 => exact (Kd.S_reads' HO369.out).2.1); (case side3 => repeat (first | exact (Kd.S_reads' HO373.out).2.2 | (with_reducible refine Kd.C_alloc ?_ _) | (with_reducible refine Kd.C_drewN ?_ _) | (with_reducible refine Kd.C_drew ?_))); (case side4 => exact (Kd.S_reads' HO373.out).2.1); rintro e w' ⟨rfl, ⟨nd, rfl⟩⟩))
                go_meet
                case rel => exact ⟨_, (((t370.length : Int) != (wrap64 (1 + t355)))), (by first | rfl | (simp; done) | (simp [*]; done)), H', ⟨by have := HJ2.out; first | omega | exact Nat.le_refl _⟩, ⟨by (with_reducible repeat (first | apply Kd.S_alloc | apply Kd.S_drewN | apply Kd.S_drew)); exact Kd.S_mono HO363.out (fun _ hk => hk.2)⟩, ⟨by (with_reducible repeat (first | apply Kd.S_alloc | apply Kd.S_drewN | apply Kd.S_drew)); exact Kd.S_mono HO373.out (fun _ hk => hk.1.2)⟩, ⟨by repeat (first | (with_reducible first | exact HB.out | apply below_alloc | apply pw_below_drewN | apply below_drew1) | exact HB.out)⟩⟩
              ·
               replace c31 := Bool.eq_false_iff.mpr c31; subst c31; have H1 : (laws_FnFollows.j1 kj2 l0 l1 (wrap64 (1 + t355)) t360 t370 true) = some r := by rw [if_neg (show ¬ (false = true) by decide)] at H; exact H
               clear H; have H := H1; clear H1; exact absurd (H.trans (congrArg some HT.out)) (laws_FnFollows.dead_j1 _ _ _ _ _ _)
             ·
              rw [if_neg c29] at H; have c29b0 : (t367 == 0) = false := beq_eq_false_iff_ne.mpr c29; have c29b1 : (t367 != 0) = true := bne_iff_ne.mpr c29; exact absurd (H.trans (congrArg some HT.out)) (laws_FnFollows.dead_j1 _ _ _ _ _ _)
            ·
             rw [if_neg c28] at H; have c28b0 : (t367 == t371) = false := beq_eq_false_iff_ne.mpr c28; have c28b1 : (t367 != t371) = true := bne_iff_ne.mpr c28; exact absurd (H.trans (congrArg some HT.out)) (laws_FnFollows.dead_j1 _ _ _ _ _ _)
           ·
            replace c27 := Bool.eq_false_iff.mpr c27; subst c27; have H1 : (laws_FnFollows.j1 kj2 l0 l1 (wrap64 (1 + t355)) t360 t370 true) = some r := by rw [if_neg (show ¬ (false = true) by decide)] at H; exact H
            clear H; have H := H1; clear H1; exact absurd (H.trans (congrArg some HT.out)) (laws_FnFollows.dead_j1 _ _ _ _ _ _)
          ·
           rw [if_neg c26] at H; have c26b0 : (t365 == 0) = false := beq_eq_false_iff_ne.mpr c26; have c26b1 : (t365 != 0) = true := bne_iff_ne.mpr c26; exact absurd (H.trans (congrArg some HT.out)) (laws_FnFollows.dead_j1 _ _ _ _ _ _)
         ·
          replace c25 := Bool.eq_false_iff.mpr c25; subst c25; have H1 : (laws_FnFollows.j1 kj2 l0 l1 (wrap64 (1 + t355)) t360 t370 true) = some r := by rw [if_neg (show ¬ (false = true) by decide)] at H; exact H
          clear H; have H := H1; clear H1; exact absurd (H.trans (congrArg some HT.out)) (laws_FnFollows.dead_j1 _ _ _ _ _ _)
        ·
         rw [if_neg c23] at H; have c23b0 : (t357 == 0) = false := beq_eq_false_iff_ne.mpr c23; have c23b1 : (t357 != 0) = true := bne_iff_ne.mpr c23; exact absurd (H.trans (congrArg some HT.out)) (laws_FnFollows.dead_j1 _ _ _ _ _ _)
       ·
        rw [if_neg c22] at H; have c22b0 : (t357 == t361) = false := beq_eq_false_iff_ne.mpr c22; have c22b1 : (t357 != t361) = true := bne_iff_ne.mpr c22; (first | rw [c22b0] | (simp only [i64_w, i32_w]; rw [c22b0]) | skip)
        exact absurd (H.trans (congrArg some HT.out)) (laws_FnFollows.dead_j1 _ _ _ _ _ _)
      exact p141
     case rest =>
      refine ?g275
      let rec p275 : type_of% ?g275 := by
       clear p275; clear HC14; try clear c1
       try clear c2
       try clear p2
       try clear c3
       try clear c5
       try clear p6
       try clear c7
       try clear c8
       try clear c9
       try clear c10
       try clear c11
       try clear c12
       try clear c13
       try clear c22
       try clear c22b0
       try clear c22b1
       try clear c23
       try clear c23b0
       try clear c23b1
       try clear c25
       try clear c26
       try clear c26b0
       try clear c26b1
       try clear c27
       try clear c28
       try clear c28b0
       try clear c28b1
       try clear c29
       try clear c29b0
       try clear c29b1
       try clear c31
       try clear c32
       try clear c32b0
       try clear c32b1
       try clear c32b2
       try clear p2
       obtain ⟨kq, x124_13, rfl, HA, HJ13, HO_8, HO_14, HB⟩ := hcut
       cases kq with
       | zero => exact absurd HA.out (by simp [laws_FnFollows.j1])
       | succ kj13 =>
        have H := HA.out; clear HA; simp only [laws_FnFollows.j1] at H
        by_cases c47 : x124_13 = true
        ·
         subst c47; have H1 : (some false) = some r := by rw [if_pos rfl] at H; exact H
         clear H; have H := H1; clear H1; exact absurd (Option.some.inj (H.trans (congrArg some HT.out))) Bool.false_ne_true
        ·
         replace c47 := Bool.eq_false_iff.mpr c47; subst c47; have H1 : (laws_FnFollows.l0 kj13 l0 l1 (wrap64 (1 + t355)) t360 t370 0) = some r := by rw [if_neg (show ¬ (false = true) by decide)] at H; exact H
         clear H; have H := H1; clear H1; have H' := Aside0.mk H; clear H; go_wp2
         go_loopg [16] kj13 (fun kq v16 w' => ∃ (x16_3 : Int), v16 = .int .i64 x16_3 ∧ Aside0 (laws_FnFollows.l0 kq l0 l1 (wrap64 (1 + t355)) t360 t370 x16_3 = some r) ∧ Aside0 (kq ≤ kj13) ∧ Aside0 (Kd.S (Kd.slice 2 (Kd.int .i64)) 33 w' w.heap.size (fun k_ => some k_ ≠ (v372 : Value).ownBlock) (.slice Ao18 t360.length co18) t360) ∧ Aside0 (Kd.S (Kd.slice 2 (Kd.int .i64)) 33 w' w.heap.size (fun k_ => some k_ ≠ ((.slice Ao18 t360.length co18) : Value).ownBlock) v372 t370) ∧ Aside0 (Below w.heap.size w w'))
         case atStart => exact ⟨(0), (by first | rfl | (simp; done) | (simp [*]; done)), H', ⟨Nat.le_refl _⟩, ⟨by (with_reducible repeat (first | apply Kd.S_alloc | apply Kd.S_drewN | apply Kd.S_drew)); exact HO_8.out⟩, ⟨by (with_reducible repeat (first | apply Kd.S_alloc | apply Kd.S_drewN | apply Kd.S_drew)); exact HO_14.out⟩, ⟨by repeat (first | (with_reducible first | exact HB.out | apply below_alloc | apply pw_below_drewN | apply below_drew1) | exact HB.out)⟩⟩
         case round =>
          refine ?g340
          let rec p340 : type_of% ?g340 := by
           clear p340; clear H'; try clear c1
           try clear c2
           try clear p2
           try clear c3
           try clear c4
           try clear c5
           try clear p6
           try clear c7
           try clear c8
           try clear c9
           try clear c10
           try clear c11
           try clear c12
           try clear c13
           try clear c22
           try clear c22b0
           try clear c22b1
           try clear c23
           try clear c23b0
           try clear c23b1
           try clear c25
           try clear c26
           try clear c26b0
           try clear c26b1
           try clear c27
           try clear c28
           try clear c28b0
           try clear c28b1
           try clear c29
           try clear c29b0
           try clear c29b1
           try clear c31
           try clear c32
           try clear c32b0
           try clear c32b1
           try clear c32b2
           try clear c47
           try clear p2
           try clear p6
           obtain ⟨x16_3, rfl, HA, HK3, HO_8, HO_14, HB⟩ := hrel
           cases gk with
           | zero => exact absurd HA.out (by simp [laws_FnFollows.l0])
           | succ k3 =>
            have H := HA.out; clear HA; simp only [laws_FnFollows.l0] at H
            by_cases c48 : x16_3 < (t360.length : Int)
            ·
             rw [if_pos c48] at H; have c48b0 : decide (x16_3 < (t360.length : Int)) = true := decide_eq_true c48
             clear c48; by_cases c49 : 0 ≤ x16_3
             ·
              rw [if_pos c49] at H; have c49b0 : decide (0 ≤ x16_3) = true := decide_eq_true c49
              clear c49; replace H := Option.bind_eq_some_iff.mp H; obtain ⟨t377, A500, H⟩ := H; replace H : (if t377 = true then (laws_FnFollows.l0 k3 l0 l1 (wrap64 (1 + t355)) t360 t370 (wrap64 (x16_3 + 1))) else (some false)) = some r := H
              have A50 := Aside0.mk A500; clear A500; by_cases c51 : t377 = true
              ·
               subst c51; have H1 : (laws_FnFollows.l0 k3 l0 l1 (wrap64 (1 + t355)) t360 t370 (wrap64 (x16_3 + 1))) = some r := by rw [if_pos rfl] at H; exact H
               clear H; have H := H1; clear H1; have H' := Aside0.mk H; clear H; have p376 : 0 ≤ (x16_3 : Int) := of_decide_eq_true (by first | (with_reducible assumption) | assumption)
               have q376 : x16_3 < (t360.length : Int) := of_decide_eq_true (by first | (with_reducible assumption) | assumption)
               obtain ⟨ad376, A376_0, c376_0, e376, hx376_0, hl376_0, hi376_0⟩ := at_L2 (Kd.S_reads' HO_8.out).2.2 x16_3 p376 q376
               cases e376
               obtain ⟨ce376, hce376, hMe376, hcc376⟩ := Kd.S_get HO_8.out [] x16_3 p376 (by first | exact q376 | exact of_decide_eq_true (by first | (with_reducible assumption) | assumption) | (have e_ := (Kd.S_reads' HO_8.out).1; omega))
               obtain ⟨ve376_0, rfl, ge376_0⟩ := hMe376
               have hv376_0 := hcc376 0 _ rfl
               rw [Nat.add_zero, show ((Kd.slice 2 (Kd.int .i64))).sz = 1 from rfl, Nat.mul_one] at hv376_0
               replace hv376_0 := Option.some.inj (hv376_0.symm.trans hx376_0)
               rw [hv376_0] at ge376_0
               have HL376_0 := Aside0.mk (show Kd.R (Kd.int .i64) 2 _ _ _ _ (rd_L2 t360 x16_3) from ge376_0)
               clear hv376_0 ge376_0; clear hcc376 hce376; have HR376_0 := Aside0.mk hi376_0; have HC376_0 := Aside0.mk hl376_0; clear hi376_0 hl376_0; replace p376 := eq_true p376
               replace q376 := eq_true q376
               go_wp2_with (first | ((with_reducible refine gate_callee (f := 15) rfl ?_); refine goesL_ (some 136) rfl rfl Try.func15 (by kernel_rfl) rfl #[.int .i64 (wrap64 (1 + t355)), .slice A376_0 (rd_L2 t360 x16_3).length c376_0] rfl (by (try simp only [List.map_toArray, List.map_cons, List.map_nil]); first | done | rfl | (simp only [List.length_drop, List.length_take]; rfl)) ?_; (with_reducible refine (impl_IsOrder.calls (wrap64 (1 + t355)) _ _ (rd_L2 t360 x16_3) true _ ?side1 ?side2 A50.out).mono ?_); (case side1 => repeat (first | exact (by repeat (first | (with_reducible exact HR376_0.out) | (with_reducible refine Kd.C_alloc ?_ _) | (with_reducible refine Kd.C_drewN ?_ _) | (with_reducible refine Kd.C_drew ?_) | exact HR376_0.out)) | (with_reducible refine Kd.C_alloc ?_ _) | (with_reducible refine Kd.C_drewN ?_ _) | (with_reducible refine Kd.C_drew ?_))); (case side2 => exact HC376_0.out); rintro e w52 ⟨rfl, hb⟩; refine ⟨_, rfl, ?_⟩; have n0_ := Aside0.mk (Kd.S_below (by (with_reducible repeat (first | apply Kd.S_alloc | apply Kd.S_drewN | apply Kd.S_drew)); exact HO_8.out) hb); have n1_ := Aside0.mk (Kd.S_below (by (with_reducible repeat (first | apply Kd.S_alloc | apply Kd.S_drewN | apply Kd.S_drew)); exact HO_14.out) hb); have n2_ := Aside0.mk (Kd.R_below (by (with_reducible repeat (first | apply Kd.R_alloc | apply Kd.R_drewN | apply Kd.R_drew)); exact HL376_0.out) hb); have n3_ := Aside0.mk (Kd.C_below (by repeat (first | (with_reducible exact HR376_0.out) | (with_reducible refine Kd.C_alloc ?_ _) | (with_reducible refine Kd.C_drewN ?_ _) | (with_reducible refine Kd.C_drew ?_) | exact HR376_0.out)) hb); have n4_ := Aside0.mk (below_step (by repeat (first | (with_reducible first | exact HB.out | apply below_alloc | apply pw_below_drewN | apply below_drew1) | exact HB.out)) hb); clear HO_8; clear HO_14; clear HL376_0; clear HR376_0; clear HB; have HO_8 := n0_; have HO_14 := n1_; have HL376_0 := n2_; have HR376_0 := n3_; have HB := n4_; clear n0_ n1_ n2_ n3_ n4_; (try clear hb); (try clear hb2); (try clear hk); (try clear hi)))
               go_roundg k3
               case measure => have := HJ2.out; have := HJ13.out; have := HK3.out; omega
               case rel => exact ⟨(wrap64 (x16_3 + 1)), (by first | rfl | (simp; done) | (simp [*]; done)), H', ⟨by have := HJ2.out; have := HJ13.out; have := HK3.out; omega⟩, ⟨by (with_reducible repeat (first | apply Kd.S_alloc | apply Kd.S_drewN | apply Kd.S_drew)); exact HO_8.out⟩, ⟨by (with_reducible repeat (first | apply Kd.S_alloc | apply Kd.S_drewN | apply Kd.S_drew)); exact HO_14.out⟩, ⟨by repeat (first | (with_reducible first | exact HB.out | apply below_alloc | apply pw_below_drewN | apply below_drew1) | exact HB.out)⟩⟩
              ·
               replace c51 := Bool.eq_false_iff.mpr c51; subst c51; have H1 : (some false) = some r := by rw [if_neg (show ¬ (false = true) by decide)] at H; exact H
               clear H; have H := H1; clear H1; exact absurd (Option.some.inj (H.trans (congrArg some HT.out))) Bool.false_ne_true
             ·
              rw [if_neg c49] at H; exact absurd H (by simp)
            ·
             rw [if_neg c48] at H; have c48b0 : decide (x16_3 < (t360.length : Int)) = false := decide_eq_false c48
             clear c48; have HC54 := Aside0.mk H; clear H; go_upto_if 140 with (fail)
             go_cut [17] (fun v17 wc => ∃ (kq : Nat) (x17_53 : Int), v17 = .int .i64 x17_53 ∧ Aside0 (laws_FnFollows.j3 kq l0 l1 (wrap64 (1 + t355)) t370 x17_53 = some r) ∧ Aside0 (kq ≤ k3) ∧ Aside0 (Kd.S (Kd.slice 2 (Kd.int .i64)) 33 wc w.heap.size (fun _ => True) v372 t370) ∧ Aside0 (Below w.heap.size w wc))
             case first =>
              refine ?g453
              let rec p453 : type_of% ?g453 := by
               clear p453; have H := HC54.out; clear HC54; by_cases c55 : (Int.tmod (wrap64 (1 + t355)) 2) = 1
               ·
                rw [if_pos c55] at H; have c55b0 : ((Int.tmod (wrap64 (1 + t355)) 2) == 1) = true := beq_iff_eq.mpr c55; have c55b1 : ((Int.tmod (wrap64 (1 + t355)) 2) != 1) = false := bne_eq_false_iff_eq.mpr c55; clear c55; (first | rw [c55b0] | (simp only [i64_w, i32_w]; rw [c55b0]) | skip)
                have H' := Aside0.mk H; clear H; go_wp2
                go_meet
                case rel => exact ⟨_, (2), (by first | rfl | (simp; done) | (simp [*]; done)), H', ⟨by have := HJ2.out; have := HJ13.out; have := HK3.out; first | omega | exact Nat.le_refl _⟩, ⟨by (with_reducible repeat (first | apply Kd.S_alloc | apply Kd.S_drewN | apply Kd.S_drew)); exact Kd.S_mono HO_14.out (fun _ hk => trivial)⟩, ⟨by repeat (first | (with_reducible first | exact HB.out | apply below_alloc | apply pw_below_drewN | apply below_drew1) | exact HB.out)⟩⟩
               ·
                rw [if_neg c55] at H; have c55b0 : ((Int.tmod (wrap64 (1 + t355)) 2) == 1) = false := beq_eq_false_iff_ne.mpr c55; have c55b1 : ((Int.tmod (wrap64 (1 + t355)) 2) != 1) = true := bne_iff_ne.mpr c55; (first | rw [c55b0] | (simp only [i64_w, i32_w]; rw [c55b0]) | skip)
                have H' := Aside0.mk H; clear H; go_wp2
                go_meet
                case rel => exact ⟨_, (1), (by first | rfl | (simp; done) | (simp [*]; done)), H', ⟨by have := HJ2.out; have := HJ13.out; have := HK3.out; first | omega | exact Nat.le_refl _⟩, ⟨by (with_reducible repeat (first | apply Kd.S_alloc | apply Kd.S_drewN | apply Kd.S_drew)); exact Kd.S_mono HO_14.out (fun _ hk => trivial)⟩, ⟨by repeat (first | (with_reducible first | exact HB.out | apply below_alloc | apply pw_below_drewN | apply below_drew1) | exact HB.out)⟩⟩
              exact p453
             case rest =>
              refine ?g478
              let rec p478 : type_of% ?g478 := by
               clear p478; clear HC54; try clear c1
               try clear c2
               try clear p2
               try clear c3
               try clear p3
               try clear q3
               try clear hx3
               try clear c4
               try clear c5
               try clear p6
               try clear c7
               try clear c8
               try clear c9
               try clear c10
               try clear c11
               try clear c12
               try clear c13
               try clear c15
               try clear c22
               try clear c22b0
               try clear c22b1
               try clear c23
               try clear c23b0
               try clear c23b1
               try clear c25
               try clear c26
               try clear c26b0
               try clear c26b1
               try clear c27
               try clear c28
               try clear c28b0
               try clear c28b1
               try clear c29
               try clear c29b0
               try clear c29b1
               try clear c31
               try clear c32
               try clear c32b0
               try clear c32b1
               try clear c32b2
               try clear c37
               try clear p37
               try clear q37
               try clear hx37
               try clear c47
               try clear c48
               try clear c48b0
               try clear c49
               try clear c49b0
               try clear c51
               try clear c55
               try clear c55b0
               try clear c55b1
               try clear hx376_0
               try clear p2
               try clear p376
               try clear p6
               try clear q376
               obtain ⟨kq, x17_53, rfl, HA, HJ53, HO_14, HB⟩ := hcut
               cases kq with
               | zero => exact absurd HA.out (by simp [laws_FnFollows.j3])
               | succ kj53 =>
                have H := HA.out; clear HA; simp only [laws_FnFollows.j3] at H
                have H' := Aside0.mk H; clear H; go_wp2
                go_loopg [18] kj53 (fun kq v18 w' => ∃ (x18_5 : Int), v18 = .int .i64 x18_5 ∧ Aside0 (laws_FnFollows.l1 kq l0 l1 (wrap64 (1 + t355)) t370 x17_53 x18_5 = some r) ∧ Aside0 (kq ≤ kj53) ∧ Aside0 (Kd.S (Kd.slice 2 (Kd.int .i64)) 33 w' w.heap.size (fun _ => True) v372 t370) ∧ Aside0 (Below w.heap.size w w'))
                case atStart => exact ⟨(0), (by first | rfl | (simp; done) | (simp [*]; done)), H', ⟨Nat.le_refl _⟩, ⟨by (with_reducible repeat (first | apply Kd.S_alloc | apply Kd.S_drewN | apply Kd.S_drew)); exact HO_14.out⟩, ⟨by repeat (first | (with_reducible first | exact HB.out | apply below_alloc | apply pw_below_drewN | apply below_drew1) | exact HB.out)⟩⟩
                case round =>
                 refine ?g550
                 let rec p550 : type_of% ?g550 := by
                  clear p550; clear H'; try clear c1
                  try clear c2
                  try clear p2
                  try clear c3
                  try clear p3
                  try clear q3
                  try clear hx3
                  try clear c4
                  try clear c5
                  try clear p6
                  try clear c7
                  try clear c8
                  try clear c9
                  try clear c10
                  try clear c11
                  try clear c12
                  try clear c13
                  try clear c15
                  try clear c22
                  try clear c22b0
                  try clear c22b1
                  try clear c23
                  try clear c23b0
                  try clear c23b1
                  try clear c25
                  try clear c26
                  try clear c26b0
                  try clear c26b1
                  try clear c27
                  try clear c28
                  try clear c28b0
                  try clear c28b1
                  try clear c29
                  try clear c29b0
                  try clear c29b1
                  try clear c31
                  try clear c32
                  try clear c32b0
                  try clear c32b1
                  try clear c32b2
                  try clear c37
                  try clear p37
                  try clear q37
                  try clear hx37
                  try clear c47
                  try clear c48
                  try clear c48b0
                  try clear c49
                  try clear c49b0
                  try clear c51
                  try clear c55
                  try clear c55b0
                  try clear c55b1
                  try clear hx376_0
                  try clear p2
                  try clear p3
                  try clear p37
                  try clear p376
                  try clear p6
                  try clear q3
                  try clear q37
                  try clear q376
                  obtain ⟨x18_5, rfl, HA, HK5, HO_14, HB⟩ := hrel
                  cases gk with
                  | zero => exact absurd HA.out (by simp [laws_FnFollows.l1])
                  | succ k5 =>
                   have H := HA.out; clear HA; simp only [laws_FnFollows.l1] at H
                   by_cases c56 : x18_5 < (wrap64 (1 + t355))
                   ·
                    rw [if_pos c56] at H; have c56b0 : decide (x18_5 < (wrap64 (1 + t355))) = true := decide_eq_true c56
                    clear c56; have H' := Aside0.mk H; clear H; go_wp2
                    go_loopg [19] k5 (fun kq v19 w' => ∃ (x19_6 : Int), v19 = .int .i64 x19_6 ∧ Aside0 (laws_FnFollows.l2 kq l0 l1 (wrap64 (1 + t355)) t370 x17_53 x18_5 x19_6 = some r) ∧ Aside0 (kq ≤ k5) ∧ Aside0 (Kd.S (Kd.slice 2 (Kd.int .i64)) 33 w' w.heap.size (fun _ => True) v372 t370) ∧ Aside0 (Below w.heap.size w w'))
                    case atStart => exact ⟨(0), (by first | rfl | (simp; done) | (simp [*]; done)), H', ⟨Nat.le_refl _⟩, ⟨by (with_reducible repeat (first | apply Kd.S_alloc | apply Kd.S_drewN | apply Kd.S_drew)); exact HO_14.out⟩, ⟨by repeat (first | (with_reducible first | exact HB.out | apply below_alloc | apply pw_below_drewN | apply below_drew1) | exact HB.out)⟩⟩
                    case round =>
                     refine ?g631
                     let rec p631 : type_of% ?g631 := by
                      clear p631; clear H'; try clear c1
                      try clear c2
                      try clear p2
                      try clear c3
                      try clear p3
                      try clear q3
                      try clear hx3
                      try clear c4
                      try clear c5
                      try clear p6
                      try clear c7
                      try clear c8
                      try clear c9
                      try clear c10
                      try clear c11
                      try clear c12
                      try clear c13
                      try clear c15
                      try clear c22
                      try clear c22b0
                      try clear c22b1
                      try clear c23
                      try clear c23b0
                      try clear c23b1
                      try clear c25
                      try clear c26
                      try clear c26b0
                      try clear c26b1
                      try clear c27
                      try clear c28
                      try clear c28b0
                      try clear c28b1
                      try clear c29
                      try clear c29b0
                      try clear c29b1
                      try clear c31
                      try clear c32
                      try clear c32b0
                      try clear c32b1
                      try clear c32b2
                      try clear c37
                      try clear p37
                      try clear q37
                      try clear hx37
                      try clear c47
                      try clear c48
                      try clear c48b0
                      try clear c49
                      try clear c49b0
                      try clear c51
                      try clear c55
                      try clear c55b0
                      try clear c55b1
                      try clear c56
                      try clear c56b0
                      try clear hx376_0
                      try clear p2
                      try clear p3
                      try clear p37
                      try clear p376
                      try clear p6
                      try clear q3
                      try clear q37
                      try clear q376
                      obtain ⟨x19_6, rfl, HA, HK6, HO_14, HB⟩ := hrel
                      cases gk with
                      | zero => exact absurd HA.out (by simp [laws_FnFollows.l2])
                      | succ k6 =>
                       have H := HA.out; clear HA; simp only [laws_FnFollows.l2] at H
                       by_cases c57 : x19_6 < (wrap64 (1 + t355))
                       ·
                        rw [if_pos c57] at H; have c57b0 : decide (x19_6 < (wrap64 (1 + t355))) = true := decide_eq_true c57
                        clear c57; by_cases c58 : x18_5 = x19_6
                        ·
                         rw [if_pos c58] at H; have c58b0 : (x18_5 == x19_6) = true := beq_iff_eq.mpr c58; have c58b1 : (x18_5 != x19_6) = false := bne_eq_false_iff_eq.mpr c58; clear c58; by_cases c59 : 0 ≤ x18_5
                         ·
                          rw [if_pos c59] at H; have c59b0 : decide (0 ≤ x18_5) = true := decide_eq_true c59
                          clear c59; by_cases c60 : x18_5 < (t370.length : Int)
                          ·
                           rw [if_pos c60] at H; have c60b0 : decide (x18_5 < (t370.length : Int)) = true := decide_eq_true c60
                           clear c60; by_cases c61 : 0 ≤ x19_6
                           ·
                            rw [if_pos c61] at H; have c61b0 : decide (0 ≤ x19_6) = true := decide_eq_true c61
                            clear c61; by_cases c62 : x19_6 < ((rd_L2 t370 x18_5).length : Int)
                            ·
                             rw [if_pos c62] at H; have c62b0 : decide (x19_6 < ((rd_L2 t370 x18_5).length : Int)) = true := decide_eq_true c62
                             clear c62; by_cases c63 : (rd (rd_L2 t370 x18_5) x19_6) = 0
                             ·
                              rw [if_pos c63] at H; have c63b0 : ((rd (rd_L2 t370 x18_5) x19_6) == 0) = true := beq_iff_eq.mpr c63; have c63b1 : ((rd (rd_L2 t370 x18_5) x19_6) != 0) = false := bne_eq_false_iff_eq.mpr c63; clear c63; have H' := Aside0.mk H; clear H; obtain ⟨Ao64, co64, eo64⟩ := Kd.S_slice HO_14.out
                              subst eo64; have p378 : 0 ≤ (x18_5 : Int) := of_decide_eq_true (by first | (with_reducible assumption) | assumption)
                              have q378 : x18_5 < (t370.length : Int) := of_decide_eq_true (by first | (with_reducible assumption) | assumption)
                              obtain ⟨ad378, A378_0, c378_0, e378, hx378_0, hl378_0, hi378_0⟩ := at_L2 (Kd.S_reads' HO_14.out).2.2 x18_5 p378 q378
                              cases e378
                              obtain ⟨ce378, hce378, hMe378, hcc378⟩ := Kd.S_get HO_14.out [] x18_5 p378 (by first | exact q378 | exact of_decide_eq_true (by first | (with_reducible assumption) | assumption) | (have e_ := (Kd.S_reads' HO_14.out).1; omega))
                              obtain ⟨ve378_0, rfl, ge378_0⟩ := hMe378
                              have hv378_0 := hcc378 0 _ rfl
                              rw [Nat.add_zero, show ((Kd.slice 2 (Kd.int .i64))).sz = 1 from rfl, Nat.mul_one] at hv378_0
                              replace hv378_0 := Option.some.inj (hv378_0.symm.trans hx378_0)
                              rw [hv378_0] at ge378_0
                              have HL378_0 := Aside0.mk (show Kd.R (Kd.int .i64) 2 _ _ _ _ (rd_L2 t370 x18_5) from ge378_0)
                              clear hv378_0 ge378_0; clear hcc378 hce378; have HR378_0 := Aside0.mk hi378_0; have HC378_0 := Aside0.mk hl378_0; clear hi378_0 hl378_0; replace p378 := eq_true p378
                              replace q378 := eq_true q378
                              have p379 : 0 ≤ (x19_6 : Int) := of_decide_eq_true (by first | (with_reducible assumption) | assumption)
                              have q379 : x19_6 < ((rd_L2 t370 x18_5).length : Int) := of_decide_eq_true (by first | (with_reducible assumption) | assumption)
                              obtain ⟨ad379, e379, hx379_0⟩ := Kd.at_int (by repeat (first | (with_reducible exact HR378_0.out) | (with_reducible refine Kd.C_alloc ?_ _) | (with_reducible refine Kd.C_drewN ?_ _) | (with_reducible refine Kd.C_drew ?_) | exact HR378_0.out)) x19_6 p379 q379
                              cases e379
                              replace p379 := eq_true p379
                              replace q379 := eq_true q379
                              go_wp2
                              go_roundg k6
                              case measure => have := HJ2.out; have := HJ13.out; have := HK3.out; have := HJ53.out; have := HK5.out; have := HK6.out; omega
                              case rel => exact ⟨(wrap64 (x19_6 + 1)), (by first | rfl | (simp; done) | (simp [*]; done)), H', ⟨by have := HJ2.out; have := HJ13.out; have := HK3.out; have := HJ53.out; have := HK5.out; have := HK6.out; omega⟩, ⟨by (with_reducible repeat (first | apply Kd.S_alloc | apply Kd.S_drewN | apply Kd.S_drew)); exact HO_14.out⟩, ⟨by repeat (first | (with_reducible first | exact HB.out | apply below_alloc | apply pw_below_drewN | apply below_drew1) | exact HB.out)⟩⟩
                             ·
                              rw [if_neg c63] at H; have c63b0 : ((rd (rd_L2 t370 x18_5) x19_6) == 0) = false := beq_eq_false_iff_ne.mpr c63; have c63b1 : ((rd (rd_L2 t370 x18_5) x19_6) != 0) = true := bne_iff_ne.mpr c63; exact absurd (Option.some.inj (H.trans (congrArg some HT.out))) Bool.false_ne_true
                            ·
                             rw [if_neg c62] at H; exact absurd H (by simp)
                           ·
                            rw [if_neg c61] at H; exact absurd H (by simp)
                          ·
                           rw [if_neg c60] at H; exact absurd H (by simp)
                         ·
                          rw [if_neg c59] at H; exact absurd H (by simp)
                        ·
                         rw [if_neg c58] at H; have c58b0 : (x18_5 == x19_6) = false := beq_eq_false_iff_ne.mpr c58; have c58b1 : (x18_5 != x19_6) = true := bne_iff_ne.mpr c58; by_cases c66 : 0 ≤ x18_5
                         ·
                          rw [if_pos c66] at H; have c66b0 : decide (0 ≤ x18_5) = true := decide_eq_true c66
                          clear c66; by_cases c67 : x18_5 < (t370.length : Int)
                          ·
                           rw [if_pos c67] at H; have c67b0 : decide (x18_5 < (t370.length : Int)) = true := decide_eq_true c67
                           clear c67; by_cases c68 : 0 ≤ x19_6
                           ·
                            rw [if_pos c68] at H; have c68b0 : decide (0 ≤ x19_6) = true := decide_eq_true c68
                            clear c68; by_cases c69 : x19_6 < ((rd_L2 t370 x18_5).length : Int)
                            ·
                             rw [if_pos c69] at H; have c69b0 : decide (x19_6 < ((rd_L2 t370 x18_5).length : Int)) = true := decide_eq_true c69
                             clear c69; by_cases c70 : (rd (rd_L2 t370 x18_5) x19_6) = x17_53
                             ·
                              rw [if_pos c70] at H; have c70b0 : ((rd (rd_L2 t370 x18_5) x19_6) == x17_53) = true := beq_iff_eq.mpr c70; have c70b1 : ((rd (rd_L2 t370 x18_5) x19_6) != x17_53) = false := bne_eq_false_iff_eq.mpr c70; clear c70; have H' := Aside0.mk H; clear H; obtain ⟨Ao71, co71, eo71⟩ := Kd.S_slice HO_14.out
                              subst eo71; have p380 : 0 ≤ (x18_5 : Int) := of_decide_eq_true (by first | (with_reducible assumption) | assumption)
                              have q380 : x18_5 < (t370.length : Int) := of_decide_eq_true (by first | (with_reducible assumption) | assumption)
                              obtain ⟨ad380, A380_0, c380_0, e380, hx380_0, hl380_0, hi380_0⟩ := at_L2 (Kd.S_reads' HO_14.out).2.2 x18_5 p380 q380
                              cases e380
                              obtain ⟨ce380, hce380, hMe380, hcc380⟩ := Kd.S_get HO_14.out [] x18_5 p380 (by first | exact q380 | exact of_decide_eq_true (by first | (with_reducible assumption) | assumption) | (have e_ := (Kd.S_reads' HO_14.out).1; omega))
                              obtain ⟨ve380_0, rfl, ge380_0⟩ := hMe380
                              have hv380_0 := hcc380 0 _ rfl
                              rw [Nat.add_zero, show ((Kd.slice 2 (Kd.int .i64))).sz = 1 from rfl, Nat.mul_one] at hv380_0
                              replace hv380_0 := Option.some.inj (hv380_0.symm.trans hx380_0)
                              rw [hv380_0] at ge380_0
                              have HL380_0 := Aside0.mk (show Kd.R (Kd.int .i64) 2 _ _ _ _ (rd_L2 t370 x18_5) from ge380_0)
                              clear hv380_0 ge380_0; clear hcc380 hce380; have HR380_0 := Aside0.mk hi380_0; have HC380_0 := Aside0.mk hl380_0; clear hi380_0 hl380_0; replace p380 := eq_true p380
                              replace q380 := eq_true q380
                              have p381 : 0 ≤ (x19_6 : Int) := of_decide_eq_true (by first | (with_reducible assumption) | assumption)
                              have q381 : x19_6 < ((rd_L2 t370 x18_5).length : Int) := of_decide_eq_true (by first | (with_reducible assumption) | assumption)
                              obtain ⟨ad381, e381, hx381_0⟩ := Kd.at_int (by repeat (first | (with_reducible exact HR380_0.out) | (with_reducible refine Kd.C_alloc ?_ _) | (with_reducible refine Kd.C_drewN ?_ _) | (with_reducible refine Kd.C_drew ?_) | exact HR380_0.out)) x19_6 p381 q381
                              cases e381
                              replace p381 := eq_true p381
                              replace q381 := eq_true q381
                              go_wp2
                              go_roundg k6
                              case measure => have := HJ2.out; have := HJ13.out; have := HK3.out; have := HJ53.out; have := HK5.out; have := HK6.out; omega
                              case rel => exact ⟨(wrap64 (x19_6 + 1)), (by first | rfl | (simp; done) | (simp [*]; done)), H', ⟨by have := HJ2.out; have := HJ13.out; have := HK3.out; have := HJ53.out; have := HK5.out; have := HK6.out; omega⟩, ⟨by (with_reducible repeat (first | apply Kd.S_alloc | apply Kd.S_drewN | apply Kd.S_drew)); exact HO_14.out⟩, ⟨by repeat (first | (with_reducible first | exact HB.out | apply below_alloc | apply pw_below_drewN | apply below_drew1) | exact HB.out)⟩⟩
                             ·
                              rw [if_neg c70] at H; have c70b0 : ((rd (rd_L2 t370 x18_5) x19_6) == x17_53) = false := beq_eq_false_iff_ne.mpr c70; have c70b1 : ((rd (rd_L2 t370 x18_5) x19_6) != x17_53) = true := bne_iff_ne.mpr c70; exact absurd (Option.some.inj (H.trans (congrArg some HT.out))) Bool.false_ne_true
                            ·
                             rw [if_neg c69] at H; exact absurd H (by simp)
                           ·
                            rw [if_neg c68] at H; exact absurd H (by simp)
                          ·
                           rw [if_neg c67] at H; exact absurd H (by simp)
                         ·
                          rw [if_neg c66] at H; exact absurd H (by simp)
                       ·
                        rw [if_neg c57] at H; have c57b0 : decide (x19_6 < (wrap64 (1 + t355))) = false := decide_eq_false c57
                        clear c57; have H' := Aside0.mk H; clear H; go_wp2
                        go_roundg k6
                        case measure => have := HJ2.out; have := HJ13.out; have := HK3.out; have := HJ53.out; have := HK5.out; have := HK6.out; omega
                        case rel => exact ⟨(wrap64 (x18_5 + 1)), (by first | rfl | (simp; done) | (simp [*]; done)), H', ⟨by have := HJ2.out; have := HJ13.out; have := HK3.out; have := HJ53.out; have := HK5.out; have := HK6.out; omega⟩, ⟨by (with_reducible repeat (first | apply Kd.S_alloc | apply Kd.S_drewN | apply Kd.S_drew)); exact HO_14.out⟩, ⟨by repeat (first | (with_reducible first | exact HB.out | apply below_alloc | apply pw_below_drewN | apply below_drew1) | exact HB.out)⟩⟩
                     exact p631
                   ·
                    rw [if_neg c56] at H; have c56b0 : decide (x18_5 < (wrap64 (1 + t355))) = false := decide_eq_false c56
                    clear c56; replace H := Option.bind_eq_some_iff.mp H; obtain ⟨t382, A730, H⟩ := H; replace H : ((spec_P6Order.f k5 l1 (wrap64 (1 + t355))).bind fun t385 => ((impl_DiscordOf.f k5 (wrap64 (1 + t355)) t382 t385).bind fun bt388 => ((spec_DiscordOf.f k5 (wrap64 (1 + t355)) t382 t385).bind fun bt390 => ((impl_DiscordOf.f k5 (wrap64 (1 + t355)) t385 t382).bind fun bt392 => ((impl_DiscordOf.f k5 (wrap64 (1 + t355)) t382 t382).bind fun bt394 => (if bt388.2 = bt390.2 then (if bt388.2 = 0 then (if bt388.1 = bt390.1 then (if bt392.2 = 0 then (if bt392.1 = bt390.1 then (if bt394.2 = 0 then (if bt394.1 = 0 then (if bt390.1 < 0 then (laws_FnFollows.j6 k5 l0 l1 (wrap64 (1 + t355)) t382 true) else (laws_FnFollows.j6 k5 l0 l1 (wrap64 (1 + t355)) t382 (decide (bt390.1 > (wrap64 (Int.tdiv (wrap64 ((wrap64 (1 + t355)) * (wrap64 ((wrap64 (1 + t355)) - 1)))) 2)))))) else (laws_FnFollows.j6 k5 l0 l1 (wrap64 (1 + t355)) t382 true)) else (laws_FnFollows.j6 k5 l0 l1 (wrap64 (1 + t355)) t382 true)) else (laws_FnFollows.j6 k5 l0 l1 (wrap64 (1 + t355)) t382 true)) else (laws_FnFollows.j6 k5 l0 l1 (wrap64 (1 + t355)) t382 true)) else (laws_FnFollows.j6 k5 l0 l1 (wrap64 (1 + t355)) t382 true)) else (laws_FnFollows.j6 k5 l0 l1 (wrap64 (1 + t355)) t382 true)) else (laws_FnFollows.j6 k5 l0 l1 (wrap64 (1 + t355)) t382 true))))))) = some r := H
                    have A73 := Aside0.mk A730; clear A730; replace H := Option.bind_eq_some_iff.mp H; obtain ⟨t385, A740, H⟩ := H; replace H : ((impl_DiscordOf.f k5 (wrap64 (1 + t355)) t382 t385).bind fun bt388 => ((spec_DiscordOf.f k5 (wrap64 (1 + t355)) t382 t385).bind fun bt390 => ((impl_DiscordOf.f k5 (wrap64 (1 + t355)) t385 t382).bind fun bt392 => ((impl_DiscordOf.f k5 (wrap64 (1 + t355)) t382 t382).bind fun bt394 => (if bt388.2 = bt390.2 then (if bt388.2 = 0 then (if bt388.1 = bt390.1 then (if bt392.2 = 0 then (if bt392.1 = bt390.1 then (if bt394.2 = 0 then (if bt394.1 = 0 then (if bt390.1 < 0 then (laws_FnFollows.j6 k5 l0 l1 (wrap64 (1 + t355)) t382 true) else (laws_FnFollows.j6 k5 l0 l1 (wrap64 (1 + t355)) t382 (decide (bt390.1 > (wrap64 (Int.tdiv (wrap64 ((wrap64 (1 + t355)) * (wrap64 ((wrap64 (1 + t355)) - 1)))) 2)))))) else (laws_FnFollows.j6 k5 l0 l1 (wrap64 (1 + t355)) t382 true)) else (laws_FnFollows.j6 k5 l0 l1 (wrap64 (1 + t355)) t382 true)) else (laws_FnFollows.j6 k5 l0 l1 (wrap64 (1 + t355)) t382 true)) else (laws_FnFollows.j6 k5 l0 l1 (wrap64 (1 + t355)) t382 true)) else (laws_FnFollows.j6 k5 l0 l1 (wrap64 (1 + t355)) t382 true)) else (laws_FnFollows.j6 k5 l0 l1 (wrap64 (1 + t355)) t382 true)) else (laws_FnFollows.j6 k5 l0 l1 (wrap64 (1 + t355)) t382 true)))))) = some r := H
                    have A74 := Aside0.mk A740; clear A740; replace H := Option.bind_eq_some_iff.mp H; obtain ⟨⟨t388, t389⟩, A750, H⟩ := H; replace H : ((spec_DiscordOf.f k5 (wrap64 (1 + t355)) t382 t385).bind fun bt390 => ((impl_DiscordOf.f k5 (wrap64 (1 + t355)) t385 t382).bind fun bt392 => ((impl_DiscordOf.f k5 (wrap64 (1 + t355)) t382 t382).bind fun bt394 => (if t389 = bt390.2 then (if t389 = 0 then (if t388 = bt390.1 then (if bt392.2 = 0 then (if bt392.1 = bt390.1 then (if bt394.2 = 0 then (if bt394.1 = 0 then (if bt390.1 < 0 then (laws_FnFollows.j6 k5 l0 l1 (wrap64 (1 + t355)) t382 true) else (laws_FnFollows.j6 k5 l0 l1 (wrap64 (1 + t355)) t382 (decide (bt390.1 > (wrap64 (Int.tdiv (wrap64 ((wrap64 (1 + t355)) * (wrap64 ((wrap64 (1 + t355)) - 1)))) 2)))))) else (laws_FnFollows.j6 k5 l0 l1 (wrap64 (1 + t355)) t382 true)) else (laws_FnFollows.j6 k5 l0 l1 (wrap64 (1 + t355)) t382 true)) else (laws_FnFollows.j6 k5 l0 l1 (wrap64 (1 + t355)) t382 true)) else (laws_FnFollows.j6 k5 l0 l1 (wrap64 (1 + t355)) t382 true)) else (laws_FnFollows.j6 k5 l0 l1 (wrap64 (1 + t355)) t382 true)) else (laws_FnFollows.j6 k5 l0 l1 (wrap64 (1 + t355)) t382 true)) else (laws_FnFollows.j6 k5 l0 l1 (wrap64 (1 + t355)) t382 true))))) = some r := H
                    have A75 := Aside0.mk A750; clear A750; replace H := Option.bind_eq_some_iff.mp H; obtain ⟨⟨t390, t391⟩, A760, H⟩ := H; replace H : ((impl_DiscordOf.f k5 (wrap64 (1 + t355)) t385 t382).bind fun bt392 => ((impl_DiscordOf.f k5 (wrap64 (1 + t355)) t382 t382).bind fun bt394 => (if t389 = t391 then (if t389 = 0 then (if t388 = t390 then (if bt392.2 = 0 then (if bt392.1 = t390 then (if bt394.2 = 0 then (if bt394.1 = 0 then (if t390 < 0 then (laws_FnFollows.j6 k5 l0 l1 (wrap64 (1 + t355)) t382 true) else (laws_FnFollows.j6 k5 l0 l1 (wrap64 (1 + t355)) t382 (decide (t390 > (wrap64 (Int.tdiv (wrap64 ((wrap64 (1 + t355)) * (wrap64 ((wrap64 (1 + t355)) - 1)))) 2)))))) else (laws_FnFollows.j6 k5 l0 l1 (wrap64 (1 + t355)) t382 true)) else (laws_FnFollows.j6 k5 l0 l1 (wrap64 (1 + t355)) t382 true)) else (laws_FnFollows.j6 k5 l0 l1 (wrap64 (1 + t355)) t382 true)) else (laws_FnFollows.j6 k5 l0 l1 (wrap64 (1 + t355)) t382 true)) else (laws_FnFollows.j6 k5 l0 l1 (wrap64 (1 + t355)) t382 true)) else (laws_FnFollows.j6 k5 l0 l1 (wrap64 (1 + t355)) t382 true)) else (laws_FnFollows.j6 k5 l0 l1 (wrap64 (1 + t355)) t382 true)))) = some r := H
                    have A76 := Aside0.mk A760; clear A760; replace H := Option.bind_eq_some_iff.mp H; obtain ⟨⟨t392, t393⟩, A770, H⟩ := H; replace H : ((impl_DiscordOf.f k5 (wrap64 (1 + t355)) t382 t382).bind fun bt394 => (if t389 = t391 then (if t389 = 0 then (if t388 = t390 then (if t393 = 0 then (if t392 = t390 then (if bt394.2 = 0 then (if bt394.1 = 0 then (if t390 < 0 then (laws_FnFollows.j6 k5 l0 l1 (wrap64 (1 + t355)) t382 true) else (laws_FnFollows.j6 k5 l0 l1 (wrap64 (1 + t355)) t382 (decide (t390 > (wrap64 (Int.tdiv (wrap64 ((wrap64 (1 + t355)) * (wrap64 ((wrap64 (1 + t355)) - 1)))) 2)))))) else (laws_FnFollows.j6 k5 l0 l1 (wrap64 (1 + t355)) t382 true)) else (laws_FnFollows.j6 k5 l0 l1 (wrap64 (1 + t355)) t382 true)) else (laws_FnFollows.j6 k5 l0 l1 (wrap64 (1 + t355)) t382 true)) else (laws_FnFollows.j6 k5 l0 l1 (wrap64 (1 + t355)) t382 true)) else (laws_FnFollows.j6 k5 l0 l1 (wrap64 (1 + t355)) t382 true)) else (laws_FnFollows.j6 k5 l0 l1 (wrap64 (1 + t355)) t382 true)) else (laws_FnFollows.j6 k5 l0 l1 (wrap64 (1 + t355)) t382 true))) = some r := H
                    have A77 := Aside0.mk A770; clear A770; replace H := Option.bind_eq_some_iff.mp H; obtain ⟨⟨t394, t395⟩, A780, H⟩ := H; replace H : (if t389 = t391 then (if t389 = 0 then (if t388 = t390 then (if t393 = 0 then (if t392 = t390 then (if t395 = 0 then (if t394 = 0 then (if t390 < 0 then (laws_FnFollows.j6 k5 l0 l1 (wrap64 (1 + t355)) t382 true) else (laws_FnFollows.j6 k5 l0 l1 (wrap64 (1 + t355)) t382 (decide (t390 > (wrap64 (Int.tdiv (wrap64 ((wrap64 (1 + t355)) * (wrap64 ((wrap64 (1 + t355)) - 1)))) 2)))))) else (laws_FnFollows.j6 k5 l0 l1 (wrap64 (1 + t355)) t382 true)) else (laws_FnFollows.j6 k5 l0 l1 (wrap64 (1 + t355)) t382 true)) else (laws_FnFollows.j6 k5 l0 l1 (wrap64 (1 + t355)) t382 true)) else (laws_FnFollows.j6 k5 l0 l1 (wrap64 (1 + t355)) t382 true)) else (laws_FnFollows.j6 k5 l0 l1 (wrap64 (1 + t355)) t382 true)) else (laws_FnFollows.j6 k5 l0 l1 (wrap64 (1 + t355)) t382 true)) else (laws_FnFollows.j6 k5 l0 l1 (wrap64 (1 + t355)) t382 true)) = some r := H
                    have A78 := Aside0.mk A780; clear A780; have HC79 := Aside0.mk H; clear H; go_upto_region 33 with (first | ((with_reducible refine gate_callee (f := 16) rfl ?_); refine goesL_ (some 182) rfl rfl Try.func16 (by kernel_rfl) rfl #[.slice A0 l0.length c0, .int .i64 (wrap64 (1 + t355))] rfl (by (try simp only [List.map_toArray, List.map_cons, List.map_nil]); first | done | rfl | (simp only [List.length_drop, List.length_take]; rfl)) ?_; (with_reducible refine (spec_P6Order.calls k5 _ _ l0 (wrap64 (1 + t355)) t382 _ ?side1 ?side2 A73.out).mono ?_); (case side1 => repeat (first | exact (Kd.C_below HR0.out HB.out) | (with_reducible refine Kd.C_alloc ?_ _) | (with_reducible refine Kd.C_drewN ?_ _) | (with_reducible refine Kd.C_drew ?_))); (case side2 => exact HC0.out); rintro e w80 ⟨v383, rfl, ho0, hb⟩; refine ⟨_, rfl, ?_⟩; have n0_ := Aside0.mk (Kd.S_elder' (by (with_reducible repeat (first | apply Kd.S_alloc | apply Kd.S_drewN | apply Kd.S_drew)); exact HO_14.out) (Kd.R_base ho0) hb); have n1_ := Aside0.mk (Kd.R_lower ho0 (below_size (by repeat (first | (with_reducible first | exact HB.out | apply below_alloc | apply pw_below_drewN | apply below_drew1) | exact HB.out)))); have n2_ := Aside0.mk (below_step (by repeat (first | (with_reducible first | exact HB.out | apply below_alloc | apply pw_below_drewN | apply below_drew1) | exact HB.out)) hb); clear HO_14; clear HB; have HO_14 := n0_; have HO384 := n1_; have HB := n2_; clear n0_ n1_ n2_; (try clear hb); (try clear hb2); (try clear hk); (try clear hi); (try clear ho0)) | ((with_reducible refine gate_callee (f := 16) rfl ?_); refine goesL_ (some 185) rfl rfl Try.func16 (by kernel_rfl) rfl #[.slice A1 l1.length c1, .int .i64 (wrap64 (1 + t355))] rfl (by (try simp only [List.map_toArray, List.map_cons, List.map_nil]); first | done | rfl | (simp only [List.length_drop, List.length_take]; rfl)) ?_; (with_reducible refine (spec_P6Order.calls k5 _ _ l1 (wrap64 (1 + t355)) t385 _ ?side1 ?side2 A74.out).mono ?_); (case side1 => repeat (first | exact (Kd.C_below HR1.out HB.out) | (with_reducible refine Kd.C_alloc ?_ _) | (with_reducible refine Kd.C_drewN ?_ _) | (with_reducible refine Kd.C_drew ?_))); (case side2 => exact HC1.out); rintro e w81 ⟨v386, rfl, ho0, hb⟩; refine ⟨_, rfl, ?_⟩; have n0_ := Aside0.mk (Kd.S_elder' (by (with_reducible repeat (first | apply Kd.S_alloc | apply Kd.S_drewN | apply Kd.S_drew)); exact HO_14.out) (Kd.R_base ho0) hb); have n1_ := Aside0.mk (Kd.R_elder' (by (with_reducible repeat (first | apply Kd.R_alloc | apply Kd.R_drewN | apply Kd.R_drew)); exact HO384.out) (Kd.R_base ho0) hb); have n2_ := Aside0.mk (Kd.R_lower (Kd.R_new' ho0 (Kd.R_lt (by (with_reducible repeat (first | apply Kd.R_alloc | apply Kd.R_drewN | apply Kd.R_drew)); exact HO384.out))) (below_size (by repeat (first | (with_reducible first | exact HB.out | apply below_alloc | apply pw_below_drewN | apply below_drew1) | exact HB.out)))); have n3_ := Aside0.mk (below_step (by repeat (first | (with_reducible first | exact HB.out | apply below_alloc | apply pw_below_drewN | apply below_drew1) | exact HB.out)) hb); clear HO_14; clear HO384; clear HB; have HO_14 := n0_; have HO384 := n1_; have HO387 := n2_; have HB := n3_; clear n0_ n1_ n2_ n3_; (try clear hb); (try clear hb2); (try clear hk); (try clear hi); (try clear ho0); obtain ⟨Ao82, co82, eo82⟩ := Kd.R_slice HO384.out; subst eo82; obtain ⟨Ao83, co83, eo83⟩ := Kd.R_slice HO387.out; subst eo83) | ((with_reducible refine gate_callee (f := 17) rfl ?_); refine goesL_ (some 190) rfl rfl Try.func17 (by kernel_rfl) rfl #[.int .i64 (wrap64 (1 + t355)), .slice Ao82 t382.length co82, .slice Ao83 t385.length co83] rfl (by (try simp only [List.map_toArray, List.map_cons, List.map_nil]); first | done | rfl | (simp only [List.length_drop, List.length_take]; rfl)) ?_; (with_reducible refine (impl_DiscordOf.calls k5 (wrap64 (1 + t355)) _ _ t382 _ _ t385 t388 t389 _ ?side1 ?side2 ?side3 ?side4 A75.out).mono ?_); (case side1 => repeat (first | exact (Kd.R_reads' HO384.out).2.2 | (with_reducible refine Kd.C_alloc ?_ _) | (with_reducible refine Kd.C_drewN ?_ _) | (with_reducible refine Kd.C_drew ?_))); (case side2 => exact (Kd.R_reads' HO384.out).2.1); (case side3 => repeat (first | exact (Kd.R_reads' HO387.out).2.2 | (with_reducible refine Kd.C_alloc ?_ _) | (with_reducible refine Kd.C_drewN ?_ _) | (with_reducible refine Kd.C_drew ?_))); (case side4 => exact (Kd.R_reads' HO387.out).2.1); rintro e w84 ⟨rfl, hb⟩; refine ⟨_, rfl, ?_⟩; have n0_ := Aside0.mk (Kd.S_below (by (with_reducible repeat (first | apply Kd.S_alloc | apply Kd.S_drewN | apply Kd.S_drew)); exact HO_14.out) hb); have n1_ := Aside0.mk (Kd.R_below (by (with_reducible repeat (first | apply Kd.R_alloc | apply Kd.R_drewN | apply Kd.R_drew)); exact HO384.out) hb); have n2_ := Aside0.mk (Kd.R_below (by (with_reducible repeat (first | apply Kd.R_alloc | apply Kd.R_drewN | apply Kd.R_drew)); exact HO387.out) hb); have n3_ := Aside0.mk (below_step (by repeat (first | (with_reducible first | exact HB.out | apply below_alloc | apply pw_below_drewN | apply below_drew1) | exact HB.out)) hb); clear HO_14; clear HO384; clear HO387; clear HB; have HO_14 := n0_; have HO384 := n1_; have HO387 := n2_; have HB := n3_; clear n0_ n1_ n2_ n3_; (try clear hb); (try clear hb2); (try clear hk); (try clear hi)) | ((with_reducible refine gate_callee (f := 18) rfl ?_); refine goesL_ (some 197) rfl rfl Try.func18 (by kernel_rfl) rfl #[.int .i64 (wrap64 (1 + t355)), .slice Ao82 t382.length co82, .slice Ao83 t385.length co83] rfl (by (try simp only [List.map_toArray, List.map_cons, List.map_nil]); first | done | rfl | (simp only [List.length_drop, List.length_take]; rfl)) ?_; (with_reducible refine (spec_DiscordOf.calls k5 (wrap64 (1 + t355)) _ _ t382 _ _ t385 t390 t391 _ ?side1 ?side2 ?side3 ?side4 A76.out).mono ?_); (case side1 => repeat (first | exact (Kd.R_reads' HO384.out).2.2 | (with_reducible refine Kd.C_alloc ?_ _) | (with_reducible refine Kd.C_drewN ?_ _) | (with_reducible refine Kd.C_drew ?_))); (case side2 => exact (Kd.R_reads' HO384.out).2.1); (case side3 => repeat (first | exact (Kd.R_reads' HO387.out).2.2 | (with_reducible refine Kd.C_alloc ?_ _) | (with_reducible refine Kd.C_drewN ?_ _) | (with_reducible refine Kd.C_drew ?_))); (case side4 => exact (Kd.R_reads' HO387.out).2.1); rintro e w85 ⟨rfl, hb⟩; refine ⟨_, rfl, ?_⟩; have n0_ := Aside0.mk (Kd.S_below (by (with_reducible repeat (first | apply Kd.S_alloc | apply Kd.S_drewN | apply Kd.S_drew)); exact HO_14.out) hb); have n1_ := Aside0.mk (Kd.R_below (by (with_reducible repeat (first | apply Kd.R_alloc | apply Kd.R_drewN | apply Kd.R_drew)); exact HO384.out) hb); have n2_ := Aside0.mk (Kd.R_below (by (with_reducible repeat (first | apply Kd.R_alloc | apply Kd.R_drewN | apply Kd.R_drew)); exact HO387.out) hb); have n3_ := Aside0.mk (below_step (by repeat (first | (with_reducible first | exact HB.out | apply below_alloc | apply pw_below_drewN | apply below_drew1) | exact HB.out)) hb); clear HO_14; clear HO384; clear HO387; clear HB; have HO_14 := n0_; have HO384 := n1_; have HO387 := n2_; have HB := n3_; clear n0_ n1_ n2_ n3_; (try clear hb); (try clear hb2); (try clear hk); (try clear hi)) | ((with_reducible refine gate_callee (f := 17) rfl ?_); refine goesL_ (some 204) rfl rfl Try.func17 (by kernel_rfl) rfl #[.int .i64 (wrap64 (1 + t355)), .slice Ao83 t385.length co83, .slice Ao82 t382.length co82] rfl (by (try simp only [List.map_toArray, List.map_cons, List.map_nil]); first | done | rfl | (simp only [List.length_drop, List.length_take]; rfl)) ?_; (with_reducible refine (impl_DiscordOf.calls k5 (wrap64 (1 + t355)) _ _ t385 _ _ t382 t392 t393 _ ?side1 ?side2 ?side3 ?side4 A77.out).mono ?_); (case side1 => repeat (first | exact (Kd.R_reads' HO387.out).2.2 | (with_reducible refine Kd.C_alloc ?_ _) | (with_reducible refine Kd.C_drewN ?_ _) | (with_reducible refine Kd.C_drew ?_))); (case side2 => exact (Kd.R_reads' HO387.out).2.1); (case side3 => repeat (first | exact (Kd.R_reads' HO384.out).2.2 | (with_reducible refine Kd.C_alloc ?_ _) | (with_reducible refine Kd.C_drewN ?_ _) | (with_reducible refine Kd.C_drew ?_))); (case side4 => exact (Kd.R_reads' HO384.out).2.1); rintro e w86 ⟨rfl, hb⟩; refine ⟨_, rfl, ?_⟩; have n0_ := Aside0.mk (Kd.S_below (by (with_reducible repeat (first | apply Kd.S_alloc | apply Kd.S_drewN | apply Kd.S_drew)); exact HO_14.out) hb); have n1_ := Aside0.mk (Kd.R_below (by (with_reducible repeat (first | apply Kd.R_alloc | apply Kd.R_drewN | apply Kd.R_drew)); exact HO384.out) hb); have n2_ := Aside0.mk (Kd.R_below (by (with_reducible repeat (first | apply Kd.R_alloc | apply Kd.R_drewN | apply Kd.R_drew)); exact HO387.out) hb); have n3_ := Aside0.mk (below_step (by repeat (first | (with_reducible first | exact HB.out | apply below_alloc | apply pw_below_drewN | apply below_drew1) | exact HB.out)) hb); clear HO_14; clear HO384; clear HO387; clear HB; have HO_14 := n0_; have HO384 := n1_; have HO387 := n2_; have HB := n3_; clear n0_ n1_ n2_ n3_; (try clear hb); (try clear hb2); (try clear hk); (try clear hi)) | ((with_reducible refine gate_callee (f := 17) rfl ?_); refine goesL_ (some 211) rfl rfl Try.func17 (by kernel_rfl) rfl #[.int .i64 (wrap64 (1 + t355)), .slice Ao82 t382.length co82, .slice Ao82 t382.length co82] rfl (by (try simp only [List.map_toArray, List.map_cons, List.map_nil]); first | done | rfl | (simp only [List.length_drop, List.length_take]; rfl)) ?_; (with_reducible refine (impl_DiscordOf.calls k5 (wrap64 (1 + t355)) _ _ t382 _ _ t382 t394 t395 _ ?side1 ?side2 ?side3 ?side4 A78.out).mono ?_); (case side1 => repeat (first | exact (Kd.R_reads' HO384.out).2.2 | (with_reducible refine Kd.C_alloc ?_ _) | (with_reducible refine Kd.C_drewN ?_ _) | (with_reducible refine Kd.C_drew ?_))); (case side2 => exact (Kd.R_reads' HO384.out).2.1); (case side3 => repeat (first | exact (Kd.R_reads' HO384.out).2.2 | (with_reducible refine Kd.C_alloc ?_ _) | (with_reducible refine Kd.C_drewN ?_ _) | (with_reducible refine Kd.C_drew ?_))); (case side4 => exact (Kd.R_reads' HO384.out).2.1); rintro e w87 ⟨rfl, hb⟩; refine ⟨_, rfl, ?_⟩; have n0_ := Aside0.mk (Kd.S_below (by (with_reducible repeat (first | apply Kd.S_alloc | apply Kd.S_drewN | apply Kd.S_drew)); exact HO_14.out) hb); have n1_ := Aside0.mk (Kd.R_below (by (with_reducible repeat (first | apply Kd.R_alloc | apply Kd.R_drewN | apply Kd.R_drew)); exact HO384.out) hb); have n2_ := Aside0.mk (Kd.R_below (by (with_reducible repeat (first | apply Kd.R_alloc | apply Kd.R_drewN | apply Kd.R_drew)); exact HO387.out) hb); have n3_ := Aside0.mk (below_step (by repeat (first | (with_reducible first | exact HB.out | apply below_alloc | apply pw_below_drewN | apply below_drew1) | exact HB.out)) hb); clear HO_14; clear HO384; clear HO387; clear HB; have HO_14 := n0_; have HO384 := n1_; have HO387 := n2_; have HB := n3_; clear n0_ n1_ n2_ n3_; (try clear hb); (try clear hb2); (try clear hk); (try clear hi)))
                    (try simp only [Act.put, List.setIfInBounds_toArray, List.set_cons_zero, List.set_cons_succ])
                    go_cut [255] (fun v255 wc => ∃ (kq : Nat) (x255_78 : Bool), v255 = .bool x255_78 ∧ Aside0 (laws_FnFollows.j6 kq l0 l1 (wrap64 (1 + t355)) t382 x255_78 = some r) ∧ Aside0 (kq ≤ k5) ∧ Aside0 (Kd.R (Kd.int .i64) 2 wc w.heap.size (fun _ => True) (.slice Ao82 t382.length co82) t382) ∧ Aside0 (Below w.heap.size w wc))
                    case first =>
                     refine ?g918
                     let rec p918 : type_of% ?g918 := by
                      clear p918; have H := HC79.out; clear HC79; by_cases c88 : t389 = t391
                      ·
                       rw [if_pos c88] at H; have c88b0 : (t389 == t391) = true := beq_iff_eq.mpr c88; have c88b1 : (t389 != t391) = false := bne_eq_false_iff_eq.mpr c88; clear c88; (first | rw [c88b0] | (simp only [i64_w, i32_w]; rw [c88b0]) | skip)
                       by_cases c89 : t389 = 0
                       ·
                        rw [if_pos c89] at H; have c89b0 : (t389 == 0) = true := beq_iff_eq.mpr c89; have c89b1 : (t389 != 0) = false := bne_eq_false_iff_eq.mpr c89; clear c89; by_cases c90 : t388 = t390
                        ·
                         rw [if_pos c90] at H; have c90b0 : (t388 == t390) = true := beq_iff_eq.mpr c90; have c90b1 : (t388 != t390) = false := bne_eq_false_iff_eq.mpr c90; clear c90; by_cases c91 : t393 = 0
                         ·
                          rw [if_pos c91] at H; have c91b0 : (t393 == 0) = true := beq_iff_eq.mpr c91; have c91b1 : (t393 != 0) = false := bne_eq_false_iff_eq.mpr c91; clear c91; by_cases c92 : t392 = t390
                          ·
                           rw [if_pos c92] at H; have c92b0 : (t392 == t390) = true := beq_iff_eq.mpr c92; have c92b1 : (t392 != t390) = false := bne_eq_false_iff_eq.mpr c92; clear c92; by_cases c93 : t395 = 0
                           ·
                            rw [if_pos c93] at H; have c93b0 : (t395 == 0) = true := beq_iff_eq.mpr c93; have c93b1 : (t395 != 0) = false := bne_eq_false_iff_eq.mpr c93; clear c93; by_cases c94 : t394 = 0
                            ·
                             rw [if_pos c94] at H; have c94b0 : (t394 == 0) = true := beq_iff_eq.mpr c94; have c94b1 : (t394 != 0) = false := bne_eq_false_iff_eq.mpr c94; clear c94; by_cases c95 : t390 < 0
                             ·
                              rw [if_pos c95] at H; have c95b0 : decide (t390 < 0) = true := decide_eq_true c95
                              clear c95; exact absurd (H.trans (congrArg some HT.out)) (laws_FnFollows.dead_j6 _ _ _ _ _)
                             ·
                              rw [if_neg c95] at H; have c95b0 : decide (t390 < 0) = false := decide_eq_false c95
                              clear c95; have H' := Aside0.mk H; clear H; go_wp2
                              go_meet
                              case rel => exact ⟨_, (decide (t390 > (wrap64 (Int.tdiv (wrap64 ((wrap64 (1 + t355)) * (wrap64 ((wrap64 (1 + t355)) - 1)))) 2)))), (by first | rfl | (simp; done) | (simp [*]; done)), H', ⟨by have := HJ2.out; have := HJ13.out; have := HK3.out; have := HJ53.out; have := HK5.out; first | omega | exact Nat.le_refl _⟩, ⟨by (with_reducible repeat (first | apply Kd.R_alloc | apply Kd.R_drewN | apply Kd.R_drew)); exact Kd.R_mono HO384.out (fun _ hk => trivial)⟩, ⟨by repeat (first | (with_reducible first | exact HB.out | apply below_alloc | apply pw_below_drewN | apply below_drew1) | exact HB.out)⟩⟩
                            ·
                             rw [if_neg c94] at H; have c94b0 : (t394 == 0) = false := beq_eq_false_iff_ne.mpr c94; have c94b1 : (t394 != 0) = true := bne_iff_ne.mpr c94; exact absurd (H.trans (congrArg some HT.out)) (laws_FnFollows.dead_j6 _ _ _ _ _)
                           ·
                            rw [if_neg c93] at H; have c93b0 : (t395 == 0) = false := beq_eq_false_iff_ne.mpr c93; have c93b1 : (t395 != 0) = true := bne_iff_ne.mpr c93; exact absurd (H.trans (congrArg some HT.out)) (laws_FnFollows.dead_j6 _ _ _ _ _)
                          ·
                           rw [if_neg c92] at H; have c92b0 : (t392 == t390) = false := beq_eq_false_iff_ne.mpr c92; have c92b1 : (t392 != t390) = true := bne_iff_ne.mpr c92; exact absurd (H.trans (congrArg some HT.out)) (laws_FnFollows.dead_j6 _ _ _ _ _)
                         ·
                          rw [if_neg c91] at H; have c91b0 : (t393 == 0) = false := beq_eq_false_iff_ne.mpr c91; have c91b1 : (t393 != 0) = true := bne_iff_ne.mpr c91; exact absurd (H.trans (congrArg some HT.out)) (laws_FnFollows.dead_j6 _ _ _ _ _)
                        ·
                         rw [if_neg c90] at H; have c90b0 : (t388 == t390) = false := beq_eq_false_iff_ne.mpr c90; have c90b1 : (t388 != t390) = true := bne_iff_ne.mpr c90; exact absurd (H.trans (congrArg some HT.out)) (laws_FnFollows.dead_j6 _ _ _ _ _)
                       ·
                        rw [if_neg c89] at H; have c89b0 : (t389 == 0) = false := beq_eq_false_iff_ne.mpr c89; have c89b1 : (t389 != 0) = true := bne_iff_ne.mpr c89; exact absurd (H.trans (congrArg some HT.out)) (laws_FnFollows.dead_j6 _ _ _ _ _)
                      ·
                       rw [if_neg c88] at H; have c88b0 : (t389 == t391) = false := beq_eq_false_iff_ne.mpr c88; have c88b1 : (t389 != t391) = true := bne_iff_ne.mpr c88; (first | rw [c88b0] | (simp only [i64_w, i32_w]; rw [c88b0]) | skip)
                       exact absurd (H.trans (congrArg some HT.out)) (laws_FnFollows.dead_j6 _ _ _ _ _)
                     exact p918
                    case rest =>
                     refine ?g1015
                     let rec p1015 : type_of% ?g1015 := by
                      clear p1015; clear HC79; try clear c1
                      try clear c2
                      try clear p2
                      try clear c3
                      try clear p3
                      try clear q3
                      try clear hx3
                      try clear c4
                      try clear c5
                      try clear c6
                      try clear p6
                      try clear c7
                      try clear c8
                      try clear c9
                      try clear c10
                      try clear c11
                      try clear c12
                      try clear c13
                      try clear c15
                      try clear c16
                      try clear c17
                      try clear c18
                      try clear c22
                      try clear c22b0
                      try clear c22b1
                      try clear c23
                      try clear c23b0
                      try clear c23b1
                      try clear c25
                      try clear c26
                      try clear c26b0
                      try clear c26b1
                      try clear c27
                      try clear c28
                      try clear c28b0
                      try clear c28b1
                      try clear c29
                      try clear c29b0
                      try clear c29b1
                      try clear c31
                      try clear c32
                      try clear c32b0
                      try clear c32b1
                      try clear c32b2
                      try clear c37
                      try clear p37
                      try clear q37
                      try clear hx37
                      try clear c38
                      try clear p38
                      try clear q38
                      try clear hx38
                      try clear c47
                      try clear c48
                      try clear c48b0
                      try clear c49
                      try clear c49b0
                      try clear c51
                      try clear c55
                      try clear c55b0
                      try clear c55b1
                      try clear c56
                      try clear c56b0
                      try clear c57
                      try clear c57b0
                      try clear c58
                      try clear c58b0
                      try clear c58b1
                      try clear c59
                      try clear c59b0
                      try clear c60
                      try clear c60b0
                      try clear c61
                      try clear c61b0
                      try clear c62
                      try clear c62b0
                      try clear c63
                      try clear c63b0
                      try clear c63b1
                      try clear p64
                      try clear c66
                      try clear c66b0
                      try clear c67
                      try clear c67b0
                      try clear c68
                      try clear c68b0
                      try clear c69
                      try clear c69b0
                      try clear c70
                      try clear c70b0
                      try clear c70b1
                      try clear c88
                      try clear c88b0
                      try clear c88b1
                      try clear c89
                      try clear c89b0
                      try clear c89b1
                      try clear c90
                      try clear c90b0
                      try clear c90b1
                      try clear c91
                      try clear c91b0
                      try clear c91b1
                      try clear c92
                      try clear c92b0
                      try clear c92b1
                      try clear c93
                      try clear c93b0
                      try clear c93b1
                      try clear c94
                      try clear c94b0
                      try clear c94b1
                      try clear c95
                      try clear c95b0
                      try clear hx376_0
                      try clear hx378_0
                      try clear hx379_0
                      try clear hx380_0
                      try clear hx381_0
                      try clear p2
                      try clear p3
                      try clear p37
                      try clear p376
                      try clear p378
                      try clear p379
                      try clear p380
                      try clear p381
                      try clear p6
                      try clear q3
                      try clear q37
                      try clear q376
                      try clear q378
                      try clear q379
                      try clear q380
                      try clear q381
                      obtain ⟨kq, x255_78, rfl, HA, HJ78, HO_20, HB⟩ := hcut
                      cases kq with
                      | zero => exact absurd HA.out (by simp [laws_FnFollows.j6])
                      | succ kj78 =>
                       have H := HA.out; clear HA; simp only [laws_FnFollows.j6] at H
                       by_cases c96 : x255_78 = true
                       ·
                        subst c96; have H1 : (some false) = some r := by rw [if_pos rfl] at H; exact H
                        clear H; have H := H1; clear H1; exact absurd (Option.some.inj (H.trans (congrArg some HT.out))) Bool.false_ne_true
                       ·
                        replace c96 := Bool.eq_false_iff.mpr c96; subst c96; have H1 : ((some (([1, 7, 11, 77, 899, 13] : List Int) : List Int)).bind fun y396 => ((spec_P6Pick.f l1 6).bind fun t399 => (if 0 ≤ t399 then (if t399 < (y396.length : Int) then ((spec_P6Pick.f l0 900).bind fun t401 => ((impl_BlindNumbers.f kj78 (wrap64 (1 + t355)) (rd y396 t399) t401).bind fun bt402 => ((spec_P6Pick.f l1 6).bind fun t406 => (if 0 ≤ t406 then (if t406 < (y396.length : Int) then ((spec_P6Pick.f l0 900).bind fun t408 => ((spec_BlindNumbers.f kj78 (wrap64 (1 + t355)) (rd y396 t406) t408).bind fun bt409 => (if bt402.2 = bt409.2 then (if bt402.2 = 0 then ((spec_SameNumbers.f kj78 bt402.1 bt409.1).bind fun t413 => (if t413 = true then (laws_FnFollows.j7 kj78 (wrap64 (1 + t355)) t382 bt409.1 ((bt409.1.length : Int) != (wrap64 (1 + t355)))) else (laws_FnFollows.j7 kj78 (wrap64 (1 + t355)) t382 bt409.1 true))) else (laws_FnFollows.j7 kj78 (wrap64 (1 + t355)) t382 bt409.1 true)) else (laws_FnFollows.j7 kj78 (wrap64 (1 + t355)) t382 bt409.1 true)))) else (none)) else (none))))) else (none)) else (none)))) = some r := by rw [if_neg (show ¬ (false = true) by decide)] at H; exact H
                        clear H; have H := H1; clear H1; obtain ⟨y396, hy396⟩ : ∃ y_ : List Int, y_ = (([1, 7, 11, 77, 899, 13] : List Int)) := ⟨_, rfl⟩
                        replace H : ((spec_P6Pick.f l1 6).bind fun t399 => (if 0 ≤ t399 then (if t399 < (y396.length : Int) then ((spec_P6Pick.f l0 900).bind fun t401 => ((impl_BlindNumbers.f kj78 (wrap64 (1 + t355)) (rd y396 t399) t401).bind fun bt402 => ((spec_P6Pick.f l1 6).bind fun t406 => (if 0 ≤ t406 then (if t406 < (y396.length : Int) then ((spec_P6Pick.f l0 900).bind fun t408 => ((spec_BlindNumbers.f kj78 (wrap64 (1 + t355)) (rd y396 t406) t408).bind fun bt409 => (if bt402.2 = bt409.2 then (if bt402.2 = 0 then ((spec_SameNumbers.f kj78 bt402.1 bt409.1).bind fun t413 => (if t413 = true then (laws_FnFollows.j7 kj78 (wrap64 (1 + t355)) t382 bt409.1 ((bt409.1.length : Int) != (wrap64 (1 + t355)))) else (laws_FnFollows.j7 kj78 (wrap64 (1 + t355)) t382 bt409.1 true))) else (laws_FnFollows.j7 kj78 (wrap64 (1 + t355)) t382 bt409.1 true)) else (laws_FnFollows.j7 kj78 (wrap64 (1 + t355)) t382 bt409.1 true)))) else (none)) else (none))))) else (none)) else (none))) = some r := by first | (rw [hy396]; with_reducible exact H) | (have H2_ := (Option.bind_some _ _).symm.trans H; rw [hy396]; with_reducible exact H2_) | (have H2_ := (Option.bind_some _ _).symm.trans H; with_reducible exact H2_) | with_reducible exact H | (rw [hy396]; exact H) | exact H
                        have Ny396 := Aside0.mk hy396; clear hy396; replace H := Option.bind_eq_some_iff.mp H; obtain ⟨t399, A970, H⟩ := H; replace H : (if 0 ≤ t399 then (if t399 < (y396.length : Int) then ((spec_P6Pick.f l0 900).bind fun t401 => ((impl_BlindNumbers.f kj78 (wrap64 (1 + t355)) (rd y396 t399) t401).bind fun bt402 => ((spec_P6Pick.f l1 6).bind fun t406 => (if 0 ≤ t406 then (if t406 < (y396.length : Int) then ((spec_P6Pick.f l0 900).bind fun t408 => ((spec_BlindNumbers.f kj78 (wrap64 (1 + t355)) (rd y396 t406) t408).bind fun bt409 => (if bt402.2 = bt409.2 then (if bt402.2 = 0 then ((spec_SameNumbers.f kj78 bt402.1 bt409.1).bind fun t413 => (if t413 = true then (laws_FnFollows.j7 kj78 (wrap64 (1 + t355)) t382 bt409.1 ((bt409.1.length : Int) != (wrap64 (1 + t355)))) else (laws_FnFollows.j7 kj78 (wrap64 (1 + t355)) t382 bt409.1 true))) else (laws_FnFollows.j7 kj78 (wrap64 (1 + t355)) t382 bt409.1 true)) else (laws_FnFollows.j7 kj78 (wrap64 (1 + t355)) t382 bt409.1 true)))) else (none)) else (none))))) else (none)) else (none)) = some r := H
                        have A97 := Aside0.mk A970; clear A970; by_cases c98 : 0 ≤ t399
                        ·
                         rw [if_pos c98] at H; have c98b0 : decide (0 ≤ t399) = true := decide_eq_true c98
                         clear c98; by_cases c99 : t399 < (y396.length : Int)
                         ·
                          rw [if_pos c99] at H; have c99b0 : decide (t399 < (y396.length : Int)) = true := decide_eq_true c99
                          clear c99; replace H := Option.bind_eq_some_iff.mp H; obtain ⟨t401, A1000, H⟩ := H; replace H : ((impl_BlindNumbers.f kj78 (wrap64 (1 + t355)) (rd y396 t399) t401).bind fun bt402 => ((spec_P6Pick.f l1 6).bind fun t406 => (if 0 ≤ t406 then (if t406 < (y396.length : Int) then ((spec_P6Pick.f l0 900).bind fun t408 => ((spec_BlindNumbers.f kj78 (wrap64 (1 + t355)) (rd y396 t406) t408).bind fun bt409 => (if bt402.2 = bt409.2 then (if bt402.2 = 0 then ((spec_SameNumbers.f kj78 bt402.1 bt409.1).bind fun t413 => (if t413 = true then (laws_FnFollows.j7 kj78 (wrap64 (1 + t355)) t382 bt409.1 ((bt409.1.length : Int) != (wrap64 (1 + t355)))) else (laws_FnFollows.j7 kj78 (wrap64 (1 + t355)) t382 bt409.1 true))) else (laws_FnFollows.j7 kj78 (wrap64 (1 + t355)) t382 bt409.1 true)) else (laws_FnFollows.j7 kj78 (wrap64 (1 + t355)) t382 bt409.1 true)))) else (none)) else (none)))) = some r := H
                          have A100 := Aside0.mk A1000; clear A1000; replace H := Option.bind_eq_some_iff.mp H; obtain ⟨⟨t402, t403⟩, A1010, H⟩ := H; replace H : ((spec_P6Pick.f l1 6).bind fun t406 => (if 0 ≤ t406 then (if t406 < (y396.length : Int) then ((spec_P6Pick.f l0 900).bind fun t408 => ((spec_BlindNumbers.f kj78 (wrap64 (1 + t355)) (rd y396 t406) t408).bind fun bt409 => (if t403 = bt409.2 then (if t403 = 0 then ((spec_SameNumbers.f kj78 t402 bt409.1).bind fun t413 => (if t413 = true then (laws_FnFollows.j7 kj78 (wrap64 (1 + t355)) t382 bt409.1 ((bt409.1.length : Int) != (wrap64 (1 + t355)))) else (laws_FnFollows.j7 kj78 (wrap64 (1 + t355)) t382 bt409.1 true))) else (laws_FnFollows.j7 kj78 (wrap64 (1 + t355)) t382 bt409.1 true)) else (laws_FnFollows.j7 kj78 (wrap64 (1 + t355)) t382 bt409.1 true)))) else (none)) else (none))) = some r := H
                          have A101 := Aside0.mk A1010; clear A1010; replace H := Option.bind_eq_some_iff.mp H; obtain ⟨t406, A1020, H⟩ := H; replace H : (if 0 ≤ t406 then (if t406 < (y396.length : Int) then ((spec_P6Pick.f l0 900).bind fun t408 => ((spec_BlindNumbers.f kj78 (wrap64 (1 + t355)) (rd y396 t406) t408).bind fun bt409 => (if t403 = bt409.2 then (if t403 = 0 then ((spec_SameNumbers.f kj78 t402 bt409.1).bind fun t413 => (if t413 = true then (laws_FnFollows.j7 kj78 (wrap64 (1 + t355)) t382 bt409.1 ((bt409.1.length : Int) != (wrap64 (1 + t355)))) else (laws_FnFollows.j7 kj78 (wrap64 (1 + t355)) t382 bt409.1 true))) else (laws_FnFollows.j7 kj78 (wrap64 (1 + t355)) t382 bt409.1 true)) else (laws_FnFollows.j7 kj78 (wrap64 (1 + t355)) t382 bt409.1 true)))) else (none)) else (none)) = some r := H
                          have A102 := Aside0.mk A1020; clear A1020; by_cases c103 : 0 ≤ t406
                          ·
                           rw [if_pos c103] at H; have c103b0 : decide (0 ≤ t406) = true := decide_eq_true c103
                           clear c103; by_cases c104 : t406 < (y396.length : Int)
                           ·
                            rw [if_pos c104] at H; have c104b0 : decide (t406 < (y396.length : Int)) = true := decide_eq_true c104
                            clear c104; replace H := Option.bind_eq_some_iff.mp H; obtain ⟨t408, A1050, H⟩ := H; replace H : ((spec_BlindNumbers.f kj78 (wrap64 (1 + t355)) (rd y396 t406) t408).bind fun bt409 => (if t403 = bt409.2 then (if t403 = 0 then ((spec_SameNumbers.f kj78 t402 bt409.1).bind fun t413 => (if t413 = true then (laws_FnFollows.j7 kj78 (wrap64 (1 + t355)) t382 bt409.1 ((bt409.1.length : Int) != (wrap64 (1 + t355)))) else (laws_FnFollows.j7 kj78 (wrap64 (1 + t355)) t382 bt409.1 true))) else (laws_FnFollows.j7 kj78 (wrap64 (1 + t355)) t382 bt409.1 true)) else (laws_FnFollows.j7 kj78 (wrap64 (1 + t355)) t382 bt409.1 true))) = some r := H
                            have A105 := Aside0.mk A1050; clear A1050; replace H := Option.bind_eq_some_iff.mp H; obtain ⟨⟨t409, t410⟩, A1060, H⟩ := H; replace H : (if t403 = t410 then (if t403 = 0 then ((spec_SameNumbers.f kj78 t402 t409).bind fun t413 => (if t413 = true then (laws_FnFollows.j7 kj78 (wrap64 (1 + t355)) t382 t409 ((t409.length : Int) != (wrap64 (1 + t355)))) else (laws_FnFollows.j7 kj78 (wrap64 (1 + t355)) t382 t409 true))) else (laws_FnFollows.j7 kj78 (wrap64 (1 + t355)) t382 t409 true)) else (laws_FnFollows.j7 kj78 (wrap64 (1 + t355)) t382 t409 true)) = some r := H
                            have A106 := Aside0.mk A1060; clear A1060; have HC107 := Aside0.mk H; clear H; try go_wp2_with (first | ((with_reducible refine gate_dst (N := 256) rfl ?_); (try (refine gate_guard (by rfl) ?_; dsimp only)); refine Kd.R_lit (Kd.int .i64) _ 2 ?hg (N := 256) ?hd (xs := ([1, 7, 11, 77, 899, 13] : List Int)) (inner := [.int .i64 1, .int .i64 7, .int .i64 11, .int .i64 77, .int .i64 899, .int .i64 13]) (ok := fun _ => True) (okp := fun _ => True) ?hr ?hp (fun _ hk => hk) trivial (Below.refl _ _) (Nat.le_refl _) (by simp) ?_; (case hd => rfl); (case hg => rfl); (case hr => first | (go_simp; done) | (go_simp; rfl)); (case hp => exact (Reps.one (show Kd.M (Kd.int .i64) _ _ _ 1 [.int .i64 1] from rfl) (Reps.one (show Kd.M (Kd.int .i64) _ _ _ 7 [.int .i64 7] from rfl) (Reps.one (show Kd.M (Kd.int .i64) _ _ _ 11 [.int .i64 11] from rfl) (Reps.one (show Kd.M (Kd.int .i64) _ _ _ 77 [.int .i64 77] from rfl) (Reps.one (show Kd.M (Kd.int .i64) _ _ _ 899 [.int .i64 899] from rfl) (Reps.one (show Kd.M (Kd.int .i64) _ _ _ 13 [.int .i64 13] from rfl) (Reps.none _ _)))))))); intro v397 w108 ho109 hb hg_ hnew_; clear hg_ hnew_; (first | rw [← Ny396.out] at ho109 | (simp only [Int.reduceToNat] at ho109; rw [← Ny396.out] at ho109)); have n0_ := Aside0.mk (Kd.R_elder' (by (with_reducible repeat (first | apply Kd.R_alloc | apply Kd.R_drewN | apply Kd.R_drew)); exact HO_20.out) (Kd.R_base ho109) hb); have n1_ := Aside0.mk (Kd.R_lower (Kd.R_new' ho109 (Kd.R_lt (by (with_reducible repeat (first | apply Kd.R_alloc | apply Kd.R_drewN | apply Kd.R_drew)); exact HO_20.out))) (below_size (by repeat (first | (with_reducible first | exact HB.out | apply below_alloc | apply pw_below_drewN | apply below_drew1) | exact HB.out)))); have n2_ := Aside0.mk (below_step (by repeat (first | (with_reducible first | exact HB.out | apply below_alloc | apply pw_below_drewN | apply below_drew1) | exact HB.out)) hb); clear HO_20; clear HB; have HO_20 := n0_; have HO398 := n1_; have HB := n2_; clear n0_ n1_ n2_; clear hb ho109))
                            have n0_ := Aside0.mk (Kd.R_drew HO_20.out)
                            have n1_ := Aside0.mk (Kd.R_drew HO398.out)
                            have n2_ := Aside0.mk (below_drew1 HB.out)
                            clear HO_20; clear HO398; clear HB; have HO_20 := n0_; have HO398 := n1_; have HB := n2_; clear n0_ n1_ n2_; have p400 : 0 ≤ (t399 : Int) := of_decide_eq_true (by first | (with_reducible assumption) | assumption)
                            have q400 : t399 < (y396.length : Int) := of_decide_eq_true (by first | (with_reducible assumption) | assumption)
                            obtain ⟨Ao901, co901, eo901⟩ := Kd.R_slice HO398.out
                            subst eo901; obtain ⟨ad400, e400, hx400_0⟩ := Kd.at_int (Kd.R_reads' HO398.out).2.2 t399 p400 q400
                            cases e400
                            replace p400 := eq_true p400
                            replace q400 := eq_true q400
                            refine start_ (n := 14) (S := fun w' => w'.cell? (ad400.add (t399).toNat) = some (.int .i64 (rd y396 t399))) (ds := []) #[false, false, false, false, false, false, false, false, false, false, false, false, false, false] (by kernel_rfl) rfl rfl (hx400_0) (fun hHeld => ?_); refine with_tabW laws_FnFollows.tab36 laws_FnFollows.bits36 (fun HT_ HW_ => ?_)
                            generalize w108.drew = w110 at HO_20 HO398 HB hx400_0 hHeld ⊢
                            refine pure_ (i := 0) (N := some 258) (v := ?_) (a' := ?_) #[true, false, false, false, false, false, false, false, false, false, false, false, false, false] rfl rfl (any_of HT_.out (by kernel_rfl)) (fun _ _ _ h => h) (Or.inl ⟨by rfl, ?_⟩) ?_ ?_
                            rotate_left
                            ·
                             intro w'
                             go_simp
                             with_reducible rfl
                            rotate_left
                            ·
                             simp only [Act.put, List.setIfInBounds_toArray, List.set_cons_zero, List.set_cons_succ, i64_w, i32_w]
                             rfl
                            refine pure_ (i := 1) (N := some 259) (v := ?_) (a' := ?_) #[true, true, false, false, false, false, false, false, false, false, false, false, false, false] rfl rfl (any_of HT_.out (by kernel_rfl)) (fun _ _ _ h => h) (Or.inl ⟨by rfl, ?_⟩) ?_ ?_
                            rotate_left
                            ·
                             intro w'
                             go_simp
                             with_reducible rfl
                            rotate_left
                            ·
                             simp only [Act.put, List.setIfInBounds_toArray, List.set_cons_zero, List.set_cons_succ, i64_w, i32_w]
                             rfl
                            refine pure_ (i := 2) (N := some 260) (v := ?_) (a' := ?_) #[true, true, true, false, false, false, false, false, false, false, false, false, false, false] rfl rfl (any_of HT_.out (by kernel_rfl)) (fun _ _ _ h => h) (Or.inl ⟨by rfl, ?_⟩) ?_ ?_
                            rotate_left
                            ·
                             intro w'
                             go_simp
                             with_reducible rfl
                            rotate_left
                            ·
                             simp only [Act.put, List.setIfInBounds_toArray, List.set_cons_zero, List.set_cons_succ, i64_w, i32_w]
                             rfl
                            refine pure_ (i := 6) (N := some 264) (v := ?_) (a' := ?_) #[true, true, true, false, false, false, true, false, false, false, false, false, false, false] rfl rfl (any_of HT_.out (by kernel_rfl)) (fun _ _ _ h => h) (Or.inl ⟨by rfl, ?_⟩) ?_ ?_
                            rotate_left
                            ·
                             intro w'
                             go_simp
                             with_reducible rfl
                            rotate_left
                            ·
                             simp only [Act.put, List.setIfInBounds_toArray, List.set_cons_zero, List.set_cons_succ, i64_w, i32_w]
                             rfl
                            refine one_ (i := 3) (N := some 261) #[true, true, true, true, false, false, true, false, false, false, false, false, false, false] rfl rfl (one_of HT_.out (by kernel_rfl)) (by decide) (fun K hK => ?_)
                            refine goes_ Try.func8 (by kernel_rfl) rfl #[.slice A1 l1.length c1, .int .i64 6] (by rfl) rfl rfl (by (try simp only [List.map_toArray, List.map_cons, List.map_nil]); first | done | rfl | (simp only [List.length_drop, List.length_take]; rfl)) ?_
                            with_reducible refine (spec_P6Pick.calls _ _ l1 6 t399 _ ?side1 ?side2 A97.out).mono ?_
                            (case side1 => repeat (first | exact (Kd.C_below HR1.out HB.out) | (with_reducible refine Kd.C_alloc ?_ _) | (with_reducible refine Kd.C_drewN ?_ _) | (with_reducible refine Kd.C_drew ?_)))
                            (case side2 => exact HC1.out)
                            rintro e w111 ⟨rfl, hb⟩
                            have HS0_ := (hb.cell (World.block_lt_of_cell? _ _ (hHeld))).trans (hHeld)
                            refine ⟨_, rfl, ?_⟩
                            have n0_ := Aside0.mk (Kd.R_below (by (with_reducible repeat (first | apply Kd.R_alloc | apply Kd.R_drewN | apply Kd.R_drew)); exact HO_20.out) hb)
                            have n1_ := Aside0.mk (Kd.R_below (by (with_reducible repeat (first | apply Kd.R_alloc | apply Kd.R_drewN | apply Kd.R_drew)); exact HO398.out) hb)
                            have n2_ := Aside0.mk (below_step (by repeat (first | (with_reducible first | exact HB.out | apply below_alloc | apply pw_below_drewN | apply below_drew1) | exact HB.out)) hb)
                            clear HO_20; clear HO398; clear HB; have HO_20 := n0_; have HO398 := n1_; have HB := n2_; clear n0_ n1_ n2_; (try clear hb)
                            (try clear hb2)
                            (try clear hk)
                            (try clear hi)
                            obtain ⟨Ao112, co112, eo112⟩ := Kd.R_slice HO398.out
                            (first | subst eo112 | (injection eo112 with f1_ f2_ f3_; have f4_ := f1_.symm; have f5_ := f3_.symm; clear f1_ f2_ f3_; subst f4_; subst f5_))
                            refine hK.out _ _ (HS0_) (fun hHeld => ?_)
                            clear hK K; refine norm_ (a' := ?_) ?_ ?_; rotate_left
                            ·
                             show Act.put _ (some 261) _ = _
                             simp only [Act.put, List.setIfInBounds_toArray, List.set_cons_zero, List.set_cons_succ, i64_w, i32_w]
                             rfl
                            refine pure_ (i := 4) (N := some 262) (v := ?_) (a' := ?_) #[true, true, true, true, true, false, true, false, false, false, false, false, false, false] rfl rfl (any_of HT_.out (by kernel_rfl)) (fun _ _ _ h => h) (Or.inl ⟨by rfl, ?_⟩) ?_ ?_
                            rotate_left
                            ·
                             intro w'
                             go_simp
                             with_reducible rfl
                            rotate_left
                            ·
                             simp only [Act.put, List.setIfInBounds_toArray, List.set_cons_zero, List.set_cons_succ, i64_w, i32_w]
                             rfl
                            refine take_ (i := 5) (N := some 263) (v := ?_) (a' := ?_) #[true, true, true, true, true, true, true, false, false, false, false, false, false, false] rfl rfl (take_ofW HT_.out HW_.out (by kernel_rfl)) (fun _ _ _ h => h) (Or.inl ⟨by rfl, ?_⟩) hHeld ?_ ?_
                            rotate_left
                            ·
                             intro w' s0
                             go_simp
                             with_reducible rfl
                            rotate_left
                            ·
                             simp only [Act.put, List.setIfInBounds_toArray, List.set_cons_zero, List.set_cons_succ, i64_w, i32_w]
                             rfl
                            refine one_ (i := 7) (N := some 265) #[true, true, true, true, true, true, true, true, false, false, false, false, false, false] rfl rfl (one_of HT_.out (by kernel_rfl)) (by decide) (fun K hK => ?_)
                            refine goes_ Try.func8 (by kernel_rfl) rfl #[.slice A0 l0.length c0, .int .i64 900] (by rfl) rfl rfl (by (try simp only [List.map_toArray, List.map_cons, List.map_nil]); first | done | rfl | (simp only [List.length_drop, List.length_take]; rfl)) ?_
                            with_reducible refine (spec_P6Pick.calls _ _ l0 900 t401 _ ?side1 ?side2 A100.out).mono ?_
                            (case side1 => repeat (first | exact (Kd.C_below HR0.out HB.out) | (with_reducible refine Kd.C_alloc ?_ _) | (with_reducible refine Kd.C_drewN ?_ _) | (with_reducible refine Kd.C_drew ?_)))
                            (case side2 => exact HC0.out)
                            rintro e w113 ⟨rfl, hb⟩
                            have HS0_ := (hb.cell (World.block_lt_of_cell? _ _ (hHeld))).trans (hHeld)
                            refine ⟨_, rfl, ?_⟩
                            have n0_ := Aside0.mk (Kd.R_below (by (with_reducible repeat (first | apply Kd.R_alloc | apply Kd.R_drewN | apply Kd.R_drew)); exact HO_20.out) hb)
                            have n1_ := Aside0.mk (Kd.R_below (by (with_reducible repeat (first | apply Kd.R_alloc | apply Kd.R_drewN | apply Kd.R_drew)); exact HO398.out) hb)
                            have n2_ := Aside0.mk (below_step (by repeat (first | (with_reducible first | exact HB.out | apply below_alloc | apply pw_below_drewN | apply below_drew1) | exact HB.out)) hb)
                            clear HO_20; clear HO398; clear HB; have HO_20 := n0_; have HO398 := n1_; have HB := n2_; clear n0_ n1_ n2_; (try clear hb)
                            (try clear hb2)
                            (try clear hk)
                            (try clear hi)
                            refine hK.out _ _ (HS0_) (fun hHeld => ?_)
                            clear hK K; refine norm_ (a' := ?_) ?_ ?_; rotate_left
                            ·
                             show Act.put _ (some 265) _ = _
                             simp only [Act.put, List.setIfInBounds_toArray, List.set_cons_zero, List.set_cons_succ, i64_w, i32_w]
                             rfl
                            refine one_ (i := 8) (N := some 266) #[true, true, true, true, true, true, true, true, true, false, false, false, false, false] rfl rfl (one_of HT_.out (by kernel_rfl)) (by decide) (fun K hK => ?_)
                            refine goes_ Try.func19 (by kernel_rfl) rfl #[.int .i64 (wrap64 (1 + t355)), .int .i64 (rd y396 t399), .int .i64 t401] (by rfl) rfl rfl (by (try simp only [List.map_toArray, List.map_cons, List.map_nil]); first | done | rfl | (simp only [List.length_drop, List.length_take]; rfl)) ?_
                            with_reducible refine (impl_BlindNumbers.calls kj78 (wrap64 (1 + t355)) (rd y396 t399) t401 t402 t403 _ A101.out).mono ?_
                            rintro e w114 ⟨v404, rfl, ho0, hb⟩
                            have HS0_ := (hb.cell (World.block_lt_of_cell? _ _ (hHeld))).trans (hHeld)
                            refine ⟨_, rfl, ?_⟩
                            have n0_ := Aside0.mk (Kd.R_elder' (by (with_reducible repeat (first | apply Kd.R_alloc | apply Kd.R_drewN | apply Kd.R_drew)); exact HO_20.out) (Kd.R_base ho0) hb)
                            have n1_ := Aside0.mk (Kd.R_elder' (by (with_reducible repeat (first | apply Kd.R_alloc | apply Kd.R_drewN | apply Kd.R_drew)); exact HO398.out) (Kd.R_base ho0) hb)
                            have n2_ := Aside0.mk (Kd.R_lower (Kd.R_new' (Kd.R_new' ho0 (Kd.R_lt (by (with_reducible repeat (first | apply Kd.R_alloc | apply Kd.R_drewN | apply Kd.R_drew)); exact HO_20.out))) (Kd.R_lt (by (with_reducible repeat (first | apply Kd.R_alloc | apply Kd.R_drewN | apply Kd.R_drew)); exact HO398.out))) (below_size (by repeat (first | (with_reducible first | exact HB.out | apply below_alloc | apply pw_below_drewN | apply below_drew1) | exact HB.out))))
                            have n3_ := Aside0.mk (below_step (by repeat (first | (with_reducible first | exact HB.out | apply below_alloc | apply pw_below_drewN | apply below_drew1) | exact HB.out)) hb)
                            clear HO_20; clear HO398; clear HB; have HO_20 := n0_; have HO398 := n1_; have HO405 := n2_; have HB := n3_; clear n0_ n1_ n2_ n3_; (try clear hb)
                            (try clear hb2)
                            (try clear hk)
                            (try clear hi)
                            (try clear ho0)
                            refine hK.out _ _ (HS0_) (fun hHeld => ?_)
                            clear hK K; refine norm_ (a' := ?_) ?_ ?_; rotate_left
                            ·
                             show Act.put _ (some 266) _ = _
                             simp only [Act.put, List.setIfInBounds_toArray, List.set_cons_zero, List.set_cons_succ, i64_w, i32_w]
                             rfl
                            refine pure_ (i := 9) (N := some 257) (v := ?_) (a' := ?_) #[true, true, true, true, true, true, true, true, true, true, false, false, false, false] rfl rfl (any_of HT_.out (by kernel_rfl)) (fun _ _ _ h => h) (Or.inl ⟨by rfl, ?_⟩) ?_ ?_
                            rotate_left
                            ·
                             intro w'
                             go_simp
                             with_reducible rfl
                            rotate_left
                            ·
                             simp only [Act.put, List.setIfInBounds_toArray, List.set_cons_zero, List.set_cons_succ, i64_w, i32_w]
                             rfl
                            refine pure_ (i := 10) (N := some 267) (v := ?_) (a' := ?_) #[true, true, true, true, true, true, true, true, true, true, true, false, false, false] rfl rfl (any_of HT_.out (by kernel_rfl)) (fun _ _ _ h => h) (Or.inl ⟨by rfl, ?_⟩) ?_ ?_
                            rotate_left
                            ·
                             intro w'
                             go_simp
                             with_reducible rfl
                            rotate_left
                            ·
                             simp only [Act.put, List.setIfInBounds_toArray, List.set_cons_zero, List.set_cons_succ, i64_w, i32_w]
                             rfl
                            refine pure_ (i := 11) (N := some 268) (v := ?_) (a' := ?_) #[true, true, true, true, true, true, true, true, true, true, true, true, false, false] rfl rfl (any_of HT_.out (by kernel_rfl)) (fun _ _ _ h => h) (Or.inl ⟨by rfl, ?_⟩) ?_ ?_
                            rotate_left
                            ·
                             intro w'
                             go_simp
                             with_reducible rfl
                            rotate_left
                            ·
                             simp only [Act.put, List.setIfInBounds_toArray, List.set_cons_zero, List.set_cons_succ, i64_w, i32_w]
                             rfl
                            refine pure_ (i := 12) (N := some 31) (v := ?_) (a' := ?_) #[true, true, true, true, true, true, true, true, true, true, true, true, true, false] rfl rfl (any_of HT_.out (by kernel_rfl)) (fun _ _ _ h => h) (Or.inl ⟨by rfl, ?_⟩) ?_ ?_
                            rotate_left
                            ·
                             intro w'
                             go_simp
                             with_reducible rfl
                            rotate_left
                            ·
                             simp only [Act.put, List.setIfInBounds_toArray, List.set_cons_zero, List.set_cons_succ, i64_w, i32_w]
                             rfl
                            refine pure_ (i := 13) (N := some 32) (v := ?_) (a' := ?_) #[true, true, true, true, true, true, true, true, true, true, true, true, true, true] rfl rfl (any_of HT_.out (by kernel_rfl)) (fun _ _ _ h => h) (Or.inl ⟨by rfl, ?_⟩) ?_ ?_
                            rotate_left
                            ·
                             intro w'
                             go_simp
                             with_reducible rfl
                            rotate_left
                            ·
                             simp only [Act.put, List.setIfInBounds_toArray, List.set_cons_zero, List.set_cons_succ, i64_w, i32_w]
                             rfl
                            refine done_ (done_of HT_.out (by kernel_rfl)) ?_
                            try go_wp2
                            have n0_ := Aside0.mk (Kd.R_drew HO_20.out)
                            have n1_ := Aside0.mk (Kd.R_drew HO398.out)
                            have n2_ := Aside0.mk (Kd.R_drew HO405.out)
                            have n3_ := Aside0.mk (below_drew1 HB.out)
                            clear HO_20; clear HO398; clear HO405; clear HB; have HO_20 := n0_; have HO398 := n1_; have HO405 := n2_; have HB := n3_; clear n0_ n1_ n2_ n3_; have p407 : 0 ≤ (t406 : Int) := of_decide_eq_true (by first | (with_reducible assumption) | assumption)
                            have q407 : t406 < (y396.length : Int) := of_decide_eq_true (by first | (with_reducible assumption) | assumption)
                            obtain ⟨ad407, e407, hx407_0⟩ := Kd.at_int (Kd.R_reads' HO398.out).2.2 t406 p407 q407
                            obtain rfl : ad400 = ad407 := (by injection e407)
                            replace p407 := eq_true p407
                            replace q407 := eq_true q407
                            refine start_ (n := 14) (S := fun w' => w'.cell? (ad400.add (t406).toNat) = some (.int .i64 (rd y396 t406))) (ds := []) #[false, false, false, false, false, false, false, false, false, false, false, false, false, false] (by kernel_rfl) rfl rfl (hx407_0) (fun hHeld => ?_); refine with_tabW laws_FnFollows.tab37 laws_FnFollows.bits37 (fun HT_ HW_ => ?_)
                            generalize w114.drew = w115 at HO_20 HO398 HO405 HB hx407_0 hHeld ⊢
                            refine pure_ (i := 0) (N := some 270) (v := ?_) (a' := ?_) #[true, false, false, false, false, false, false, false, false, false, false, false, false, false] rfl rfl (any_of HT_.out (by kernel_rfl)) (fun _ _ _ h => h) (Or.inl ⟨by rfl, ?_⟩) ?_ ?_
                            rotate_left
                            ·
                             intro w'
                             go_simp
                             with_reducible rfl
                            rotate_left
                            ·
                             simp only [Act.put, List.setIfInBounds_toArray, List.set_cons_zero, List.set_cons_succ, i64_w, i32_w]
                             rfl
                            refine pure_ (i := 1) (N := some 271) (v := ?_) (a' := ?_) #[true, true, false, false, false, false, false, false, false, false, false, false, false, false] rfl rfl (any_of HT_.out (by kernel_rfl)) (fun _ _ _ h => h) (Or.inl ⟨by rfl, ?_⟩) ?_ ?_
                            rotate_left
                            ·
                             intro w'
                             go_simp
                             with_reducible rfl
                            rotate_left
                            ·
                             simp only [Act.put, List.setIfInBounds_toArray, List.set_cons_zero, List.set_cons_succ, i64_w, i32_w]
                             rfl
                            refine pure_ (i := 2) (N := some 272) (v := ?_) (a' := ?_) #[true, true, true, false, false, false, false, false, false, false, false, false, false, false] rfl rfl (any_of HT_.out (by kernel_rfl)) (fun _ _ _ h => h) (Or.inl ⟨by rfl, ?_⟩) ?_ ?_
                            rotate_left
                            ·
                             intro w'
                             go_simp
                             with_reducible rfl
                            rotate_left
                            ·
                             simp only [Act.put, List.setIfInBounds_toArray, List.set_cons_zero, List.set_cons_succ, i64_w, i32_w]
                             rfl
                            refine pure_ (i := 6) (N := some 276) (v := ?_) (a' := ?_) #[true, true, true, false, false, false, true, false, false, false, false, false, false, false] rfl rfl (any_of HT_.out (by kernel_rfl)) (fun _ _ _ h => h) (Or.inl ⟨by rfl, ?_⟩) ?_ ?_
                            rotate_left
                            ·
                             intro w'
                             go_simp
                             with_reducible rfl
                            rotate_left
                            ·
                             simp only [Act.put, List.setIfInBounds_toArray, List.set_cons_zero, List.set_cons_succ, i64_w, i32_w]
                             rfl
                            refine one_ (i := 3) (N := some 273) #[true, true, true, true, false, false, true, false, false, false, false, false, false, false] rfl rfl (one_of HT_.out (by kernel_rfl)) (by decide) (fun K hK => ?_)
                            refine goes_ Try.func8 (by kernel_rfl) rfl #[.slice A1 l1.length c1, .int .i64 6] (by rfl) rfl rfl (by (try simp only [List.map_toArray, List.map_cons, List.map_nil]); first | done | rfl | (simp only [List.length_drop, List.length_take]; rfl)) ?_
                            with_reducible refine (spec_P6Pick.calls _ _ l1 6 t406 _ ?side1 ?side2 A102.out).mono ?_
                            (case side1 => repeat (first | exact (Kd.C_below HR1.out HB.out) | (with_reducible refine Kd.C_alloc ?_ _) | (with_reducible refine Kd.C_drewN ?_ _) | (with_reducible refine Kd.C_drew ?_)))
                            (case side2 => exact HC1.out)
                            rintro e w116 ⟨rfl, hb⟩
                            have HS0_ := (hb.cell (World.block_lt_of_cell? _ _ (hHeld))).trans (hHeld)
                            refine ⟨_, rfl, ?_⟩
                            have n0_ := Aside0.mk (Kd.R_below (by (with_reducible repeat (first | apply Kd.R_alloc | apply Kd.R_drewN | apply Kd.R_drew)); exact HO_20.out) hb)
                            have n1_ := Aside0.mk (Kd.R_below (by (with_reducible repeat (first | apply Kd.R_alloc | apply Kd.R_drewN | apply Kd.R_drew)); exact HO398.out) hb)
                            have n2_ := Aside0.mk (Kd.R_below (by (with_reducible repeat (first | apply Kd.R_alloc | apply Kd.R_drewN | apply Kd.R_drew)); exact HO405.out) hb)
                            have n3_ := Aside0.mk (below_step (by repeat (first | (with_reducible first | exact HB.out | apply below_alloc | apply pw_below_drewN | apply below_drew1) | exact HB.out)) hb)
                            clear HO_20; clear HO398; clear HO405; clear HB; have HO_20 := n0_; have HO398 := n1_; have HO405 := n2_; have HB := n3_; clear n0_ n1_ n2_ n3_; (try clear hb)
                            (try clear hb2)
                            (try clear hk)
                            (try clear hi)
                            refine hK.out _ _ (HS0_) (fun hHeld => ?_)
                            clear hK K; refine norm_ (a' := ?_) ?_ ?_; rotate_left
                            ·
                             show Act.put _ (some 273) _ = _
                             simp only [Act.put, List.setIfInBounds_toArray, List.set_cons_zero, List.set_cons_succ, i64_w, i32_w]
                             rfl
                            refine pure_ (i := 4) (N := some 274) (v := ?_) (a' := ?_) #[true, true, true, true, true, false, true, false, false, false, false, false, false, false] rfl rfl (any_of HT_.out (by kernel_rfl)) (fun _ _ _ h => h) (Or.inl ⟨by rfl, ?_⟩) ?_ ?_
                            rotate_left
                            ·
                             intro w'
                             go_simp
                             with_reducible rfl
                            rotate_left
                            ·
                             simp only [Act.put, List.setIfInBounds_toArray, List.set_cons_zero, List.set_cons_succ, i64_w, i32_w]
                             rfl
                            refine take_ (i := 5) (N := some 275) (v := ?_) (a' := ?_) #[true, true, true, true, true, true, true, false, false, false, false, false, false, false] rfl rfl (take_ofW HT_.out HW_.out (by kernel_rfl)) (fun _ _ _ h => h) (Or.inl ⟨by rfl, ?_⟩) hHeld ?_ ?_
                            rotate_left
                            ·
                             intro w' s0
                             go_simp
                             with_reducible rfl
                            rotate_left
                            ·
                             simp only [Act.put, List.setIfInBounds_toArray, List.set_cons_zero, List.set_cons_succ, i64_w, i32_w]
                             rfl
                            refine one_ (i := 7) (N := some 277) #[true, true, true, true, true, true, true, true, false, false, false, false, false, false] rfl rfl (one_of HT_.out (by kernel_rfl)) (by decide) (fun K hK => ?_)
                            refine goes_ Try.func8 (by kernel_rfl) rfl #[.slice A0 l0.length c0, .int .i64 900] (by rfl) rfl rfl (by (try simp only [List.map_toArray, List.map_cons, List.map_nil]); first | done | rfl | (simp only [List.length_drop, List.length_take]; rfl)) ?_
                            with_reducible refine (spec_P6Pick.calls _ _ l0 900 t408 _ ?side1 ?side2 A105.out).mono ?_
                            (case side1 => repeat (first | exact (Kd.C_below HR0.out HB.out) | (with_reducible refine Kd.C_alloc ?_ _) | (with_reducible refine Kd.C_drewN ?_ _) | (with_reducible refine Kd.C_drew ?_)))
                            (case side2 => exact HC0.out)
                            rintro e w117 ⟨rfl, hb⟩
                            have HS0_ := (hb.cell (World.block_lt_of_cell? _ _ (hHeld))).trans (hHeld)
                            refine ⟨_, rfl, ?_⟩
                            have n0_ := Aside0.mk (Kd.R_below (by (with_reducible repeat (first | apply Kd.R_alloc | apply Kd.R_drewN | apply Kd.R_drew)); exact HO_20.out) hb)
                            have n1_ := Aside0.mk (Kd.R_below (by (with_reducible repeat (first | apply Kd.R_alloc | apply Kd.R_drewN | apply Kd.R_drew)); exact HO398.out) hb)
                            have n2_ := Aside0.mk (Kd.R_below (by (with_reducible repeat (first | apply Kd.R_alloc | apply Kd.R_drewN | apply Kd.R_drew)); exact HO405.out) hb)
                            have n3_ := Aside0.mk (below_step (by repeat (first | (with_reducible first | exact HB.out | apply below_alloc | apply pw_below_drewN | apply below_drew1) | exact HB.out)) hb)
                            clear HO_20; clear HO398; clear HO405; clear HB; have HO_20 := n0_; have HO398 := n1_; have HO405 := n2_; have HB := n3_; clear n0_ n1_ n2_ n3_; (try clear hb)
                            (try clear hb2)
                            (try clear hk)
                            (try clear hi)
                            refine hK.out _ _ (HS0_) (fun hHeld => ?_)
                            clear hK K; refine norm_ (a' := ?_) ?_ ?_; rotate_left
                            ·
                             show Act.put _ (some 277) _ = _
                             simp only [Act.put, List.setIfInBounds_toArray, List.set_cons_zero, List.set_cons_succ, i64_w, i32_w]
                             rfl
                            refine one_ (i := 8) (N := some 278) #[true, true, true, true, true, true, true, true, true, false, false, false, false, false] rfl rfl (one_of HT_.out (by kernel_rfl)) (by decide) (fun K hK => ?_)
                            refine goes_ Try.func20 (by kernel_rfl) rfl #[.int .i64 (wrap64 (1 + t355)), .int .i64 (rd y396 t406), .int .i64 t408] (by rfl) rfl rfl (by (try simp only [List.map_toArray, List.map_cons, List.map_nil]); first | done | rfl | (simp only [List.length_drop, List.length_take]; rfl)) ?_
                            with_reducible refine (spec_BlindNumbers.calls kj78 (wrap64 (1 + t355)) (rd y396 t406) t408 t409 t410 _ A106.out).mono ?_
                            rintro e w118 ⟨v411, rfl, ho0, hb⟩
                            have HS0_ := (hb.cell (World.block_lt_of_cell? _ _ (hHeld))).trans (hHeld)
                            refine ⟨_, rfl, ?_⟩
                            have n0_ := Aside0.mk (Kd.R_elder' (by (with_reducible repeat (first | apply Kd.R_alloc | apply Kd.R_drewN | apply Kd.R_drew)); exact HO_20.out) (Kd.R_base ho0) hb)
                            have n1_ := Aside0.mk (Kd.R_elder' (by (with_reducible repeat (first | apply Kd.R_alloc | apply Kd.R_drewN | apply Kd.R_drew)); exact HO398.out) (Kd.R_base ho0) hb)
                            have n2_ := Aside0.mk (Kd.R_elder' (by (with_reducible repeat (first | apply Kd.R_alloc | apply Kd.R_drewN | apply Kd.R_drew)); exact HO405.out) (Kd.R_base ho0) hb)
                            have n3_ := Aside0.mk (Kd.R_lower (Kd.R_new' (Kd.R_new' (Kd.R_new' ho0 (Kd.R_lt (by (with_reducible repeat (first | apply Kd.R_alloc | apply Kd.R_drewN | apply Kd.R_drew)); exact HO_20.out))) (Kd.R_lt (by (with_reducible repeat (first | apply Kd.R_alloc | apply Kd.R_drewN | apply Kd.R_drew)); exact HO398.out))) (Kd.R_lt (by (with_reducible repeat (first | apply Kd.R_alloc | apply Kd.R_drewN | apply Kd.R_drew)); exact HO405.out))) (below_size (by repeat (first | (with_reducible first | exact HB.out | apply below_alloc | apply pw_below_drewN | apply below_drew1) | exact HB.out))))
                            have n4_ := Aside0.mk (below_step (by repeat (first | (with_reducible first | exact HB.out | apply below_alloc | apply pw_below_drewN | apply below_drew1) | exact HB.out)) hb)
                            clear HO_20; clear HO398; clear HO405; clear HB; have HO_20 := n0_; have HO398 := n1_; have HO405 := n2_; have HO412 := n3_; have HB := n4_; clear n0_ n1_ n2_ n3_ n4_; (try clear hb)
                            (try clear hb2)
                            (try clear hk)
                            (try clear hi)
                            (try clear ho0)
                            refine hK.out _ _ (HS0_) (fun hHeld => ?_)
                            clear hK K; refine norm_ (a' := ?_) ?_ ?_; rotate_left
                            ·
                             show Act.put _ (some 278) _ = _
                             simp only [Act.put, List.setIfInBounds_toArray, List.set_cons_zero, List.set_cons_succ, i64_w, i32_w]
                             rfl
                            refine pure_ (i := 9) (N := some 269) (v := ?_) (a' := ?_) #[true, true, true, true, true, true, true, true, true, true, false, false, false, false] rfl rfl (any_of HT_.out (by kernel_rfl)) (fun _ _ _ h => h) (Or.inl ⟨by rfl, ?_⟩) ?_ ?_
                            rotate_left
                            ·
                             intro w'
                             go_simp
                             with_reducible rfl
                            rotate_left
                            ·
                             simp only [Act.put, List.setIfInBounds_toArray, List.set_cons_zero, List.set_cons_succ, i64_w, i32_w]
                             rfl
                            refine pure_ (i := 10) (N := some 279) (v := ?_) (a' := ?_) #[true, true, true, true, true, true, true, true, true, true, true, false, false, false] rfl rfl (any_of HT_.out (by kernel_rfl)) (fun _ _ _ h => h) (Or.inl ⟨by rfl, ?_⟩) ?_ ?_
                            rotate_left
                            ·
                             intro w'
                             go_simp
                             with_reducible rfl
                            rotate_left
                            ·
                             simp only [Act.put, List.setIfInBounds_toArray, List.set_cons_zero, List.set_cons_succ, i64_w, i32_w]
                             rfl
                            refine pure_ (i := 11) (N := some 280) (v := ?_) (a' := ?_) #[true, true, true, true, true, true, true, true, true, true, true, true, false, false] rfl rfl (any_of HT_.out (by kernel_rfl)) (fun _ _ _ h => h) (Or.inl ⟨by rfl, ?_⟩) ?_ ?_
                            rotate_left
                            ·
                             intro w'
                             go_simp
                             with_reducible rfl
                            rotate_left
                            ·
                             simp only [Act.put, List.setIfInBounds_toArray, List.set_cons_zero, List.set_cons_succ, i64_w, i32_w]
                             rfl
                            refine pure_ (i := 12) (N := some 33) (v := ?_) (a' := ?_) #[true, true, true, true, true, true, true, true, true, true, true, true, true, false] rfl rfl (any_of HT_.out (by kernel_rfl)) (fun _ _ _ h => h) (Or.inl ⟨by rfl, ?_⟩) ?_ ?_
                            rotate_left
                            ·
                             intro w'
                             go_simp
                             with_reducible rfl
                            rotate_left
                            ·
                             simp only [Act.put, List.setIfInBounds_toArray, List.set_cons_zero, List.set_cons_succ, i64_w, i32_w]
                             rfl
                            refine pure_ (i := 13) (N := some 34) (v := ?_) (a' := ?_) #[true, true, true, true, true, true, true, true, true, true, true, true, true, true] rfl rfl (any_of HT_.out (by kernel_rfl)) (fun _ _ _ h => h) (Or.inl ⟨by rfl, ?_⟩) ?_ ?_
                            rotate_left
                            ·
                             intro w'
                             go_simp
                             with_reducible rfl
                            rotate_left
                            ·
                             simp only [Act.put, List.setIfInBounds_toArray, List.set_cons_zero, List.set_cons_succ, i64_w, i32_w]
                             rfl
                            refine done_ (done_of HT_.out (by kernel_rfl)) ?_
                            go_upto_region 38 with (fail)
                            go_cut [299] (fun v299 wc => ∃ (kq : Nat) (x299_106 : Bool), v299 = .bool x299_106 ∧ Aside0 (laws_FnFollows.j7 kq (wrap64 (1 + t355)) t382 t409 x299_106 = some r) ∧ Aside0 (kq ≤ kj78) ∧ Aside0 (Kd.R (Kd.int .i64) 2 wc w.heap.size (fun k_ => some k_ ≠ (v411 : Value).ownBlock) (.slice Ao82 t382.length co82) t382) ∧ Aside0 (Kd.R (Kd.int .i64) 2 wc w.heap.size (fun k_ => some k_ ≠ ((.slice Ao82 t382.length co82) : Value).ownBlock) v411 t409) ∧ Aside0 (Below w.heap.size w wc))
                            case first =>
                             refine ?g1690
                             let rec p1690 : type_of% ?g1690 := by
                              clear p1690; have H := HC107.out; clear HC107; by_cases c119 : t403 = t410
                              ·
                               rw [if_pos c119] at H; have c119b0 : (t403 == t410) = true := beq_iff_eq.mpr c119; have c119b1 : (t403 != t410) = false := bne_eq_false_iff_eq.mpr c119; clear c119; (first | rw [c119b0] | (simp only [i64_w, i32_w]; rw [c119b0]) | skip)
                               by_cases c120 : t403 = 0
                               ·
                                rw [if_pos c120] at H; have c120b0 : (t403 == 0) = true := beq_iff_eq.mpr c120; have c120b1 : (t403 != 0) = false := bne_eq_false_iff_eq.mpr c120; clear c120; replace H := Option.bind_eq_some_iff.mp H; obtain ⟨t413, A1210, H⟩ := H; replace H : (if t413 = true then (laws_FnFollows.j7 kj78 (wrap64 (1 + t355)) t382 t409 ((t409.length : Int) != (wrap64 (1 + t355)))) else (laws_FnFollows.j7 kj78 (wrap64 (1 + t355)) t382 t409 true)) = some r := H
                                have A121 := Aside0.mk A1210; clear A1210; by_cases c122 : t413 = true
                                ·
                                 subst c122; have H1 : (laws_FnFollows.j7 kj78 (wrap64 (1 + t355)) t382 t409 ((t409.length : Int) != (wrap64 (1 + t355)))) = some r := by rw [if_pos rfl] at H; exact H
                                 clear H; have H := H1; clear H1; have H' := Aside0.mk H; clear H; obtain ⟨Ao123, co123, eo123⟩ := Kd.R_slice HO405.out
                                 subst eo123; obtain ⟨Ao124, co124, eo124⟩ := Kd.R_slice HO412.out
                                 subst eo124; go_wp2_with (first | (go_at_call 21; (with_reducible refine (spec_SameNumbers.calls kj78 _ _ t402 _ _ t409 true _ ?side1 ?side2 ?side3 ?side4 A121.out).mono ?_); (case side1 => repeat (first | exact (Kd.R_reads' HO405.out).2.2 | (with_reducible refine Kd.C_alloc ?_ _) | (with_reducible refine Kd.C_drewN ?_ _) | (with_reducible refine Kd.C_drew ?_))); (case side2 => exact (Kd.R_reads' HO405.out).2.1); (case side3 => repeat (first | exact (Kd.R_reads' HO412.out).2.2 | (with_reducible refine Kd.C_alloc ?_ _) | (with_reducible refine Kd.C_drewN ?_ _) | (with_reducible refine Kd.C_drew ?_))); (case side4 => exact (Kd.R_reads' HO412.out).2.1); rintro e w' ⟨rfl, ⟨nd, rfl⟩⟩))
                                 go_meet
                                 case rel => exact ⟨_, (((t409.length : Int) != (wrap64 (1 + t355)))), (by first | rfl | (simp; done) | (simp [*]; done)), H', ⟨by have := HJ2.out; have := HJ13.out; have := HK3.out; have := HJ53.out; have := HK5.out; have := HJ78.out; first | omega | exact Nat.le_refl _⟩, ⟨by (with_reducible repeat (first | apply Kd.R_alloc | apply Kd.R_drewN | apply Kd.R_drew)); exact Kd.R_mono HO_20.out (fun _ hk => hk.2)⟩, ⟨by (with_reducible repeat (first | apply Kd.R_alloc | apply Kd.R_drewN | apply Kd.R_drew)); exact Kd.R_mono HO412.out (fun _ hk => hk.1.1.2)⟩, ⟨by repeat (first | (with_reducible first | exact HB.out | apply below_alloc | apply pw_below_drewN | apply below_drew1) | exact HB.out)⟩⟩
                                ·
                                 replace c122 := Bool.eq_false_iff.mpr c122; subst c122; have H1 : (laws_FnFollows.j7 kj78 (wrap64 (1 + t355)) t382 t409 true) = some r := by rw [if_neg (show ¬ (false = true) by decide)] at H; exact H
                                 clear H; have H := H1; clear H1; exact absurd (H.trans (congrArg some HT.out)) (laws_FnFollows.dead_j7 _ _ _ _)
                               ·
                                rw [if_neg c120] at H; have c120b0 : (t403 == 0) = false := beq_eq_false_iff_ne.mpr c120; have c120b1 : (t403 != 0) = true := bne_iff_ne.mpr c120; exact absurd (H.trans (congrArg some HT.out)) (laws_FnFollows.dead_j7 _ _ _ _)
                              ·
                               rw [if_neg c119] at H; have c119b0 : (t403 == t410) = false := beq_eq_false_iff_ne.mpr c119; have c119b1 : (t403 != t410) = true := bne_iff_ne.mpr c119; (first | rw [c119b0] | (simp only [i64_w, i32_w]; rw [c119b0]) | skip)
                               exact absurd (H.trans (congrArg some HT.out)) (laws_FnFollows.dead_j7 _ _ _ _)
                             exact p1690
                            case rest =>
                             refine ?g1746
                             let rec p1746 : type_of% ?g1746 := by
                              clear p1746; clear HC107; try clear c1
                              try clear c2
                              try clear p2
                              try clear p3
                              try clear q3
                              try clear hx3
                              try clear p4
                              try clear q4
                              try clear hx4
                              try clear c6
                              try clear p6
                              try clear c7
                              try clear c8
                              try clear c9
                              try clear c10
                              try clear c11
                              try clear c12
                              try clear c19
                              try clear c20
                              try clear p37
                              try clear q37
                              try clear hx37
                              try clear p38
                              try clear q38
                              try clear hx38
                              try clear p40
                              try clear q40
                              try clear hx40
                              try clear p64
                              try clear c69
                              try clear c69b0
                              try clear c70
                              try clear c70b0
                              try clear c70b1
                              try clear c88
                              try clear c88b0
                              try clear c88b1
                              try clear c89
                              try clear c89b0
                              try clear c89b1
                              try clear c90
                              try clear c90b0
                              try clear c90b1
                              try clear c91
                              try clear c91b0
                              try clear c91b1
                              try clear c92
                              try clear c92b0
                              try clear c92b1
                              try clear c93
                              try clear c93b0
                              try clear c93b1
                              try clear c94
                              try clear c94b0
                              try clear c94b1
                              try clear c95
                              try clear c95b0
                              try clear c96
                              try clear c98
                              try clear c98b0
                              try clear c99
                              try clear c99b0
                              try clear c103
                              try clear c103b0
                              try clear c104
                              try clear c104b0
                              try clear c119
                              try clear c119b0
                              try clear c119b1
                              try clear c120
                              try clear c120b0
                              try clear c120b1
                              try clear c122
                              try clear hx376_0
                              try clear hx378_0
                              try clear hx379_0
                              try clear hx380_0
                              try clear hx381_0
                              try clear hx400_0
                              try clear hx407_0
                              try clear p2
                              try clear p3
                              try clear p37
                              try clear p376
                              try clear p378
                              try clear p379
                              try clear p380
                              try clear p381
                              try clear p400
                              try clear p407
                              try clear p6
                              try clear q3
                              try clear q37
                              try clear q376
                              try clear q378
                              try clear q379
                              try clear q380
                              try clear q381
                              try clear q400
                              try clear q407
                              obtain ⟨kq, x299_106, rfl, HA, HJ106, HO_20, HO_33, HB⟩ := hcut
                              cases kq with
                              | zero => exact absurd HA.out (by simp [laws_FnFollows.j7])
                              | succ kj106 =>
                               have H := HA.out; clear HA; simp only [laws_FnFollows.j7] at H
                               by_cases c127 : x299_106 = true
                               ·
                                subst c127; have H1 : (some false) = some r := by rw [if_pos rfl] at H; exact H
                                clear H; have H := H1; clear H1; exact absurd (Option.some.inj (H.trans (congrArg some HT.out))) Bool.false_ne_true
                               ·
                                replace c127 := Bool.eq_false_iff.mpr c127; subst c127; have H1 : (laws_FnFollows.l3 kj106 (wrap64 (1 + t355)) t382 t409 (([] : List (S44))) (([] : List Int)) 0) = some r := by rw [if_neg (show ¬ (false = true) by decide)] at H; exact H
                                clear H; have H := H1; clear H1; obtain ⟨y414, hy414⟩ : ∃ y_ : List (S44), y_ = (([] : List (S44))) := ⟨_, rfl⟩
                                replace H : (laws_FnFollows.l3 kj106 (wrap64 (1 + t355)) t382 t409 y414 (([] : List Int)) 0) = some r := by first | (rw [hy414]; with_reducible exact H) | (have H2_ := (Option.bind_some _ _).symm.trans H; rw [hy414]; with_reducible exact H2_) | (have H2_ := (Option.bind_some _ _).symm.trans H; with_reducible exact H2_) | with_reducible exact H | (rw [hy414]; exact H) | exact H
                                have Ny414 := Aside0.mk hy414; clear hy414; obtain ⟨y417, hy417⟩ : ∃ y_ : List Int, y_ = (([] : List Int)) := ⟨_, rfl⟩
                                replace H : (laws_FnFollows.l3 kj106 (wrap64 (1 + t355)) t382 t409 y414 y417 0) = some r := by first | (rw [hy417]; with_reducible exact H) | (have H2_ := (Option.bind_some _ _).symm.trans H; rw [hy417]; with_reducible exact H2_) | (have H2_ := (Option.bind_some _ _).symm.trans H; with_reducible exact H2_) | with_reducible exact H | (rw [hy417]; exact H) | exact H
                                have Ny417 := Aside0.mk hy417; clear hy417; have H' := Aside0.mk H; clear H; go_wp2_with (first | ((with_reducible refine gate_dst (N := 300) rfl ?_); (try (refine gate_guard (by rfl) ?_; dsimp only)); refine Kd.R_lit k44 _ 44 ?hg (N := 300) ?hd (xs := ([] : List (S44))) (inner := []) (ok := fun _ => True) (okp := fun _ => True) ?hr ?hp (fun _ hk => hk) trivial (Below.refl _ _) (Nat.le_refl _) (by simp) ?_; (case hd => rfl); (case hg => rfl); (case hr => first | (go_simp; done) | (go_simp; rfl)); (case hp => exact (Reps.none _ _)); intro v415 w128 ho129 hb hg_ hnew_; clear hg_ hnew_; (first | rw [← Ny414.out] at ho129 | (simp only [Int.reduceToNat] at ho129; rw [← Ny414.out] at ho129)); have n0_ := Aside0.mk (Kd.R_below (by (with_reducible repeat (first | apply Kd.R_alloc | apply Kd.R_drewN | apply Kd.R_drew)); exact HO_20.out) hb); have n1_ := Aside0.mk (Kd.R_below (by (with_reducible repeat (first | apply Kd.R_alloc | apply Kd.R_drewN | apply Kd.R_drew)); exact HO_33.out) hb); have n2_ := Aside0.mk (Kd.R_lower ho129 (below_size (by repeat (first | (with_reducible first | exact HB.out | apply below_alloc | apply pw_below_drewN | apply below_drew1) | exact HB.out)))); have n3_ := Aside0.mk (below_step (by repeat (first | (with_reducible first | exact HB.out | apply below_alloc | apply pw_below_drewN | apply below_drew1) | exact HB.out)) hb); clear HO_20; clear HO_33; clear HB; have HO_20 := n0_; have HO_33 := n1_; have HO416 := n2_; have HB := n3_; clear n0_ n1_ n2_ n3_; clear hb ho129) | ((with_reducible refine gate_dst (N := 301) rfl ?_); (try (refine gate_guard (by rfl) ?_; dsimp only)); refine Kd.R_lit (Kd.int .i64) _ 2 ?hg (N := 301) ?hd (xs := ([] : List Int)) (inner := []) (ok := fun _ => True) (okp := fun _ => True) ?hr ?hp (fun _ hk => hk) trivial (Below.refl _ _) (Nat.le_refl _) (by simp) ?_; (case hd => rfl); (case hg => rfl); (case hr => first | (go_simp; done) | (go_simp; rfl)); (case hp => exact (Reps.none _ _)); intro v418 w130 ho131 hb hg_ hnew_; clear hg_ hnew_; (first | rw [← Ny417.out] at ho131 | (simp only [Int.reduceToNat] at ho131; rw [← Ny417.out] at ho131)); have n0_ := Aside0.mk (Kd.R_elder' (by (with_reducible repeat (first | apply Kd.R_alloc | apply Kd.R_drewN | apply Kd.R_drew)); exact HO_20.out) (Kd.R_base ho131) hb); have n1_ := Aside0.mk (Kd.R_elder' (by (with_reducible repeat (first | apply Kd.R_alloc | apply Kd.R_drewN | apply Kd.R_drew)); exact HO_33.out) (Kd.R_base ho131) hb); have n2_ := Aside0.mk (Kd.R_below (by (with_reducible repeat (first | apply Kd.R_alloc | apply Kd.R_drewN | apply Kd.R_drew)); exact HO416.out) hb); have n3_ := Aside0.mk (Kd.R_lower (Kd.R_new' (Kd.R_new' ho131 (Kd.R_lt (by (with_reducible repeat (first | apply Kd.R_alloc | apply Kd.R_drewN | apply Kd.R_drew)); exact HO_20.out))) (Kd.R_lt (by (with_reducible repeat (first | apply Kd.R_alloc | apply Kd.R_drewN | apply Kd.R_drew)); exact HO_33.out))) (below_size (by repeat (first | (with_reducible first | exact HB.out | apply below_alloc | apply pw_below_drewN | apply below_drew1) | exact HB.out)))); have n4_ := Aside0.mk (below_step (by repeat (first | (with_reducible first | exact HB.out | apply below_alloc | apply pw_below_drewN | apply below_drew1) | exact HB.out)) hb); clear HO_20; clear HO_33; clear HO416; clear HB; have HO_20 := n0_; have HO_33 := n1_; have HO416 := n2_; have HO419 := n3_; have HB := n4_; clear n0_ n1_ n2_ n3_ n4_; clear hb ho131))
                                go_loopg [35, 36, 37] kj106 (fun kq v35 v36 v37 w' => ∃ (x35_8 : List (S44)) (x36_8 : List Int) (x37_8 : Int), v37 = .int .i64 x37_8 ∧ Aside0 (laws_FnFollows.l3 kq (wrap64 (1 + t355)) t382 t409 x35_8 x36_8 x37_8 = some r) ∧ Aside0 (kq ≤ kj106) ∧ Aside0 (Kd.R (Kd.int .i64) 2 w' w.heap.size (fun k_ => some k_ ≠ (v411 : Value).ownBlock ∧ some k_ ≠ (v36 : Value).ownBlock) (.slice Ao82 t382.length co82) t382) ∧ Aside0 (Kd.R (Kd.int .i64) 2 w' w.heap.size (fun k_ => some k_ ≠ ((.slice Ao82 t382.length co82) : Value).ownBlock ∧ some k_ ≠ (v36 : Value).ownBlock) v411 t409) ∧ Aside0 (Kd.R k44 44 w' w.heap.size (fun _ => True) v35 x35_8) ∧ Aside0 (Kd.R (Kd.int .i64) 2 w' w.heap.size (fun k_ => some k_ ≠ ((.slice Ao82 t382.length co82) : Value).ownBlock ∧ some k_ ≠ (v411 : Value).ownBlock) v36 x36_8) ∧ Aside0 (Below w.heap.size w w'))
                                case atStart => exact ⟨(y414), (y417), (0), (by first | rfl | (simp; done) | (simp [*]; done)), H', ⟨Nat.le_refl _⟩, ⟨by (with_reducible repeat (first | apply Kd.R_alloc | apply Kd.R_drewN | apply Kd.R_drew)); exact HO_20.out⟩, ⟨by (with_reducible repeat (first | apply Kd.R_alloc | apply Kd.R_drewN | apply Kd.R_drew)); exact HO_33.out⟩, ⟨by (with_reducible repeat (first | apply Kd.R_alloc | apply Kd.R_drewN | apply Kd.R_drew)); exact HO416.out⟩, ⟨by (with_reducible repeat (first | apply Kd.R_alloc | apply Kd.R_drewN | apply Kd.R_drew)); exact Kd.R_mono HO419.out (fun _ hk => ⟨hk.1.2, hk.2⟩)⟩, ⟨by repeat (first | (with_reducible first | exact HB.out | apply below_alloc | apply pw_below_drewN | apply below_drew1) | exact HB.out)⟩⟩
                                case round =>
                                 refine ?g1883
                                 let rec p1883 : type_of% ?g1883 := by
                                  clear p1883; clear H'; try clear c1
                                  try clear c2
                                  try clear p2
                                  try clear p3
                                  try clear q3
                                  try clear hx3
                                  try clear p4
                                  try clear q4
                                  try clear hx4
                                  try clear c6
                                  try clear p6
                                  try clear c7
                                  try clear c8
                                  try clear c9
                                  try clear c10
                                  try clear c11
                                  try clear c12
                                  try clear c19
                                  try clear c20
                                  try clear p37
                                  try clear q37
                                  try clear hx37
                                  try clear p38
                                  try clear q38
                                  try clear hx38
                                  try clear p40
                                  try clear q40
                                  try clear hx40
                                  try clear p64
                                  try clear c69
                                  try clear c69b0
                                  try clear c70
                                  try clear c70b0
                                  try clear c70b1
                                  try clear c88
                                  try clear c88b0
                                  try clear c88b1
                                  try clear c89
                                  try clear c89b0
                                  try clear c89b1
                                  try clear c90
                                  try clear c90b0
                                  try clear c90b1
                                  try clear c91
                                  try clear c91b0
                                  try clear c91b1
                                  try clear c92
                                  try clear c92b0
                                  try clear c92b1
                                  try clear c93
                                  try clear c93b0
                                  try clear c93b1
                                  try clear c94
                                  try clear c94b0
                                  try clear c94b1
                                  try clear c95
                                  try clear c95b0
                                  try clear c96
                                  try clear c98
                                  try clear c98b0
                                  try clear c99
                                  try clear c99b0
                                  try clear c103
                                  try clear c103b0
                                  try clear c104
                                  try clear c104b0
                                  try clear c119
                                  try clear c119b0
                                  try clear c119b1
                                  try clear c120
                                  try clear c120b0
                                  try clear c120b1
                                  try clear c122
                                  try clear c127
                                  try clear hx376_0
                                  try clear hx378_0
                                  try clear hx379_0
                                  try clear hx380_0
                                  try clear hx381_0
                                  try clear hx400_0
                                  try clear hx407_0
                                  try clear p2
                                  try clear p3
                                  try clear p37
                                  try clear p376
                                  try clear p378
                                  try clear p379
                                  try clear p38
                                  try clear p380
                                  try clear p381
                                  try clear p4
                                  try clear p40
                                  try clear p400
                                  try clear p407
                                  try clear p6
                                  try clear p64
                                  try clear q3
                                  try clear q37
                                  try clear q376
                                  try clear q378
                                  try clear q379
                                  try clear q38
                                  try clear q380
                                  try clear q381
                                  try clear q4
                                  try clear q40
                                  try clear q400
                                  try clear q407
                                  obtain ⟨x35_8, x36_8, x37_8, rfl, HA, HK8, HO_20, HO_33, HO_35, HO_36, HB⟩ := hrel
                                  cases gk with
                                  | zero => exact absurd HA.out (by simp [laws_FnFollows.l3])
                                  | succ k8 =>
                                   have H := HA.out; clear HA; simp only [laws_FnFollows.l3] at H
                                   by_cases c132 : x37_8 < (wrap64 (1 + t355))
                                   ·
                                    rw [if_pos c132] at H; have c132b0 : decide (x37_8 < (wrap64 (1 + t355))) = true := decide_eq_true c132
                                    clear c132; by_cases c133 : 0 ≤ x37_8
                                    ·
                                     rw [if_pos c133] at H; have c133b0 : decide (0 ≤ x37_8) = true := decide_eq_true c133
                                     clear c133; by_cases c134 : x37_8 < (t409.length : Int)
                                     ·
                                      rw [if_pos c134] at H; have c134b0 : decide (x37_8 < (t409.length : Int)) = true := decide_eq_true c134
                                      clear c134; by_cases c135 : (rd t409 x37_8) < 100
                                      ·
                                       rw [if_pos c135] at H; have c135b0 : decide ((rd t409 x37_8) < 100) = true := decide_eq_true c135
                                       clear c135; exact absurd (Option.some.inj (H.trans (congrArg some HT.out))) Bool.false_ne_true
                                      ·
                                       rw [if_neg c135] at H; have c135b0 : decide ((rd t409 x37_8) < 100) = false := decide_eq_false c135
                                       clear c135; by_cases c138 : (rd t409 x37_8) > 999
                                       ·
                                        rw [if_pos c138] at H; have c138b0 : decide (999 < (rd t409 x37_8)) = true := decide_eq_true c138
                                        clear c138; exact absurd (Option.some.inj (H.trans (congrArg some HT.out))) Bool.false_ne_true
                                       ·
                                        rw [if_neg c138] at H; have c138b0 : decide (999 < (rd t409 x37_8)) = false := decide_eq_false c138
                                        clear c138; have c141b0 := eq_true (of_decide_eq_true (by first | (with_reducible assumption) | assumption) : 0 ≤ x37_8)
                                        by_cases c142 : x37_8 ≤ (t409.length : Int)
                                        ·
                                         rw [if_pos c142] at H; have c142b0 := eq_true c142
                                         have c142b1 : decide (x37_8 ≤ (t409.length : Int)) = true := decide_eq_true c142
                                         clear c142; obtain ⟨y422, hy422⟩ : ∃ y_ : List Int, y_ = (t409.take (x37_8 : Int).toNat) := ⟨_, rfl⟩
                                         replace H : ((spec_HasNumber.f k8 y422 (rd t409 x37_8)).bind fun t427 => (if t427 = true then (some false) else (if x35_8.length < 35184372088832 then (if x37_8 < (t382.length : Int) then (if 0 ≤ (rd t382 x37_8) then (if (rd t382 x37_8) < (t409.length : Int) then (if x36_8.length < 17592186044416 then (laws_FnFollows.l3 k8 (wrap64 (1 + t355)) t382 t409 (x35_8 ++ [(⟨(wrap64 (x37_8 + 1)) % 256, 2000⟩ : S44)]) (x36_8 ++ [rd t409 (rd t382 x37_8)]) (wrap64 (x37_8 + 1))) else (none)) else (none)) else (none)) else (none)) else (none)))) = some r := by first | (rw [hy422]; with_reducible exact H) | (have H2_ := (Option.bind_some _ _).symm.trans H; rw [hy422]; with_reducible exact H2_) | (have H2_ := (Option.bind_some _ _).symm.trans H; with_reducible exact H2_) | with_reducible exact H | (rw [hy422]; exact H) | exact H
                                         have Ny422 := Aside0.mk hy422; clear hy422; replace H := Option.bind_eq_some_iff.mp H; obtain ⟨t427, A1430, H⟩ := H; replace H : (if t427 = true then (some false) else (if x35_8.length < 35184372088832 then (if x37_8 < (t382.length : Int) then (if 0 ≤ (rd t382 x37_8) then (if (rd t382 x37_8) < (t409.length : Int) then (if x36_8.length < 17592186044416 then (laws_FnFollows.l3 k8 (wrap64 (1 + t355)) t382 t409 (x35_8 ++ [(⟨(wrap64 (x37_8 + 1)) % 256, 2000⟩ : S44)]) (x36_8 ++ [rd t409 (rd t382 x37_8)]) (wrap64 (x37_8 + 1))) else (none)) else (none)) else (none)) else (none)) else (none))) = some r := H
                                         have A143 := Aside0.mk A1430; clear A1430; by_cases c144 : t427 = true
                                         ·
                                          subst c144; have H1 : (some false) = some r := by rw [if_pos rfl] at H; exact H
                                          clear H; have H := H1; clear H1; exact absurd (Option.some.inj (H.trans (congrArg some HT.out))) Bool.false_ne_true
                                         ·
                                          replace c144 := Bool.eq_false_iff.mpr c144; subst c144; have H1 : (if x35_8.length < 35184372088832 then (if x37_8 < (t382.length : Int) then (if 0 ≤ (rd t382 x37_8) then (if (rd t382 x37_8) < (t409.length : Int) then (if x36_8.length < 17592186044416 then (laws_FnFollows.l3 k8 (wrap64 (1 + t355)) t382 t409 (x35_8 ++ [(⟨(wrap64 (x37_8 + 1)) % 256, 2000⟩ : S44)]) (x36_8 ++ [rd t409 (rd t382 x37_8)]) (wrap64 (x37_8 + 1))) else (none)) else (none)) else (none)) else (none)) else (none)) = some r := by rw [if_neg (show ¬ (false = true) by decide)] at H; exact H
                                          clear H; have H := H1; clear H1; by_cases c148 : x35_8.length < 35184372088832
                                          ·
                                           rw [if_pos c148] at H; have LMc148 := Aside0.mk c148; clear c148; obtain ⟨y428, hy428⟩ : ∃ y_ : List (S44), y_ = (x35_8 ++ [(⟨(wrap64 (x37_8 + 1)) % 256, 2000⟩ : S44)]) := ⟨_, rfl⟩
                                           replace H : (if x37_8 < (t382.length : Int) then (if 0 ≤ (rd t382 x37_8) then (if (rd t382 x37_8) < (t409.length : Int) then (if x36_8.length < 17592186044416 then (laws_FnFollows.l3 k8 (wrap64 (1 + t355)) t382 t409 y428 (x36_8 ++ [rd t409 (rd t382 x37_8)]) (wrap64 (x37_8 + 1))) else (none)) else (none)) else (none)) else (none)) = some r := by first | (rw [hy428]; with_reducible exact H) | (have H2_ := (Option.bind_some _ _).symm.trans H; rw [hy428]; with_reducible exact H2_) | (have H2_ := (Option.bind_some _ _).symm.trans H; with_reducible exact H2_) | with_reducible exact H | (rw [hy428]; exact H) | exact H
                                           have Ny428 := Aside0.mk hy428; clear hy428; by_cases c149 : x37_8 < (t382.length : Int)
                                           ·
                                            rw [if_pos c149] at H; have c149b0 : decide (x37_8 < (t382.length : Int)) = true := decide_eq_true c149
                                            clear c149; by_cases c150 : 0 ≤ (rd t382 x37_8)
                                            ·
                                             rw [if_pos c150] at H; have c150b0 : decide (0 ≤ (rd t382 x37_8)) = true := decide_eq_true c150
                                             clear c150; by_cases c151 : (rd t382 x37_8) < (t409.length : Int)
                                             ·
                                              rw [if_pos c151] at H; have c151b0 : decide ((rd t382 x37_8) < (t409.length : Int)) = true := decide_eq_true c151
                                              clear c151; by_cases c152 : x36_8.length < 17592186044416
                                              ·
                                               rw [if_pos c152] at H; have LMc152 := Aside0.mk c152; clear c152; obtain ⟨y433, hy433⟩ : ∃ y_ : List Int, y_ = (x36_8 ++ [rd t409 (rd t382 x37_8)]) := ⟨_, rfl⟩
                                               replace H : (laws_FnFollows.l3 k8 (wrap64 (1 + t355)) t382 t409 y428 y433 (wrap64 (x37_8 + 1))) = some r := by first | (rw [hy433]; with_reducible exact H) | (have H2_ := (Option.bind_some _ _).symm.trans H; rw [hy433]; with_reducible exact H2_) | (have H2_ := (Option.bind_some _ _).symm.trans H; with_reducible exact H2_) | with_reducible exact H | (rw [hy433]; exact H) | exact H
                                               have Ny433 := Aside0.mk hy433; clear hy433; have H' := Aside0.mk H; clear H; try go_wp2
                                               have n0_ := Aside0.mk (Kd.R_drew HO_20.out)
                                               have n1_ := Aside0.mk (Kd.R_drew HO_33.out)
                                               have n2_ := Aside0.mk (Kd.R_drew HO_35.out)
                                               have n3_ := Aside0.mk (Kd.R_drew HO_36.out)
                                               have n4_ := Aside0.mk (below_drew1 HB.out)
                                               clear HO_20; clear HO_33; clear HO_35; clear HO_36; clear HB; have HO_20 := n0_; have HO_33 := n1_; have HO_35 := n2_; have HO_36 := n3_; have HB := n4_; clear n0_ n1_ n2_ n3_ n4_; obtain ⟨Ao154, co154, eo154⟩ := Kd.R_slice HO_33.out
                                               (first | subst eo154 | (injection eo154 with f1_ f2_ f3_; have f4_ := f1_.symm; have f5_ := f3_.symm; clear f1_ f2_ f3_; subst f4_; subst f5_))
                                               have p420 : 0 ≤ (x37_8 : Int) := of_decide_eq_true (by first | (with_reducible assumption) | assumption)
                                               have q420 : x37_8 < (t409.length : Int) := of_decide_eq_true (by first | (with_reducible assumption) | assumption)
                                               obtain ⟨ad420, e420, hx420_0⟩ := Kd.at_int (Kd.R_reads' HO_33.out).2.2 x37_8 p420 q420
                                               cases e420
                                               replace p420 := eq_true p420
                                               replace q420 := eq_true q420
                                               have p421 : 0 ≤ (x37_8 : Int) := of_decide_eq_true (by first | (with_reducible assumption) | assumption)
                                               have q421 : x37_8 < (t409.length : Int) := of_decide_eq_true (by first | (with_reducible assumption) | assumption)
                                               obtain ⟨ad421, e421, hx421_0⟩ := Kd.at_int (Kd.R_reads' HO_33.out).2.2 x37_8 p421 q421
                                               obtain rfl : ad420 = ad421 := (by injection e421)
                                               replace p421 := eq_true p421
                                               replace q421 := eq_true q421
                                               have q155 : (x37_8 : Int) ≤ ((t409.length : Int) : Int) := of_decide_eq_true (by first | (with_reducible assumption) | assumption)
                                               obtain ⟨i0155, hi0155, _, hsz155, _⟩ := info_parts info2
                                               have hroom155 : t409.length ≤ co154 := (Kd.R_reads' HO_33.out).2.1
                                               have hC155 : Kd.C (Kd.int .i64) _ (some ad420) t409.length t409 := (Kd.R_reads' HO_33.out).2.2
                                               have hcut155 := cut_to (P := Try.prog) 33 2 .i64 Try.underlying33 hi0155 (some ad420) t409.length co154 x37_8 (of_decide_eq_true (by first | (with_reducible assumption) | assumption)) q155 hroom155
                                               have hr155 := Kd.C_take (m := (x37_8 : Int).toNat) hC155 (by omega)
                                               have hy155 : y422.length = (x37_8 : Int).toNat := (by rw [Ny422.out, List.length_take]; omega)
                                               rw [← Ny422.out] at hr155
                                               rw [← hy155] at hcut155
                                               have HR425 := Aside0.mk hr155; have HC425 := Aside0.mk (show y422.length ≤ co154 from by omega)
                                               clear hr155 hC155 hroom155 hi0155 hsz155; have KY155 := Aside0.mk hy155; clear hy155; have KL155 := Aside0.mk (show (x37_8 : Int).toNat ≤ t409.length from by omega)
                                               replace q155 := eq_true q155
                                               have p426 : 0 ≤ (x37_8 : Int) := of_decide_eq_true (by first | (with_reducible assumption) | assumption)
                                               have q426 : x37_8 < (t409.length : Int) := of_decide_eq_true (by first | (with_reducible assumption) | assumption)
                                               obtain ⟨ad426, e426, hx426_0⟩ := Kd.at_int (Kd.R_reads' HO_33.out).2.2 x37_8 p426 q426
                                               obtain rfl : ad420 = ad426 := (by injection e426)
                                               replace p426 := eq_true p426
                                               replace q426 := eq_true q426
                                               refine start_ (n := 22) (S := fun w' => w'.cell? (ad420.add (x37_8).toNat) = some (.int .i64 (rd t409 x37_8)) ∧ w'.cell? (ad420.add (x37_8).toNat) = some (.int .i64 (rd t409 x37_8)) ∧ w'.cell? (ad420.add (x37_8).toNat) = some (.int .i64 (rd t409 x37_8))) (ds := []) #[false, false, false, false, false, false, false, false, false, false, false, false, false, false, false, false, false, false, false, false, false, false] (by kernel_rfl) rfl rfl ⟨hx420_0, hx421_0, hx426_0⟩ (fun hHeld => ?_); refine with_tabW laws_FnFollows.tab45 laws_FnFollows.bits45 (fun HT_ HW_ => ?_)
                                               generalize wr.drew = w153 at HO_20 HO_33 HO_35 HO_36 HB HR425 hx420_0 hx421_0 hx426_0 hHeld ⊢
                                               refine pure_ (i := 0) (N := some 307) (v := ?_) (a' := ?_) #[true, false, false, false, false, false, false, false, false, false, false, false, false, false, false, false, false, false, false, false, false, false] rfl rfl (any_of HT_.out (by kernel_rfl)) (fun _ _ _ h => h) (Or.inl ⟨by rfl, ?_⟩) ?_ ?_
                                               rotate_left
                                               ·
                                                intro w'
                                                go_simp
                                                with_reducible rfl
                                               rotate_left
                                               ·
                                                simp only [Act.put, List.setIfInBounds_toArray, List.set_cons_zero, List.set_cons_succ, i64_w, i32_w]
                                                rfl
                                               refine pure_ (i := 1) (N := some 308) (v := ?_) (a' := ?_) #[true, true, false, false, false, false, false, false, false, false, false, false, false, false, false, false, false, false, false, false, false, false] rfl rfl (any_of HT_.out (by kernel_rfl)) (fun _ _ _ h => h) (Or.inl ⟨by rfl, ?_⟩) ?_ ?_
                                               rotate_left
                                               ·
                                                intro w'
                                                go_simp
                                                with_reducible rfl
                                               rotate_left
                                               ·
                                                simp only [Act.put, List.setIfInBounds_toArray, List.set_cons_zero, List.set_cons_succ, i64_w, i32_w]
                                                rfl
                                               refine pure_ (i := 2) (N := some 309) (v := ?_) (a' := ?_) #[true, true, true, false, false, false, false, false, false, false, false, false, false, false, false, false, false, false, false, false, false, false] rfl rfl (any_of HT_.out (by kernel_rfl)) (fun _ _ _ h => h) (Or.inl ⟨by rfl, ?_⟩) ?_ ?_
                                               rotate_left
                                               ·
                                                intro w'
                                                go_simp
                                                with_reducible rfl
                                               rotate_left
                                               ·
                                                simp only [Act.put, List.setIfInBounds_toArray, List.set_cons_zero, List.set_cons_succ, i64_w, i32_w]
                                                rfl
                                               refine take_ (i := 3) (N := some 310) (v := ?_) (a' := ?_) #[true, true, true, true, false, false, false, false, false, false, false, false, false, false, false, false, false, false, false, false, false, false] rfl rfl (take_ofW HT_.out HW_.out (by kernel_rfl)) (fun _ _ _ h => h) (Or.inl ⟨by rfl, ?_⟩) hHeld ?_ ?_
                                               rotate_left
                                               ·
                                                rintro w' ⟨s0, s1, s2⟩
                                                go_simp
                                                with_reducible rfl
                                               rotate_left
                                               ·
                                                simp only [Act.put, List.setIfInBounds_toArray, List.set_cons_zero, List.set_cons_succ, i64_w, i32_w]
                                                rfl
                                               refine pure_ (i := 4) (N := some 311) (v := ?_) (a' := ?_) #[true, true, true, true, true, false, false, false, false, false, false, false, false, false, false, false, false, false, false, false, false, false] rfl rfl (any_of HT_.out (by kernel_rfl)) (fun _ _ _ h => h) (Or.inl ⟨by rfl, ?_⟩) ?_ ?_
                                               rotate_left
                                               ·
                                                intro w'
                                                go_simp
                                                with_reducible rfl
                                               rotate_left
                                               ·
                                                simp only [Act.put, List.setIfInBounds_toArray, List.set_cons_zero, List.set_cons_succ, i64_w, i32_w]
                                                rfl
                                               refine pure_ (i := 5) (N := some 312) (v := ?_) (a' := ?_) #[true, true, true, true, true, true, false, false, false, false, false, false, false, false, false, false, false, false, false, false, false, false] rfl rfl (any_of HT_.out (by kernel_rfl)) (fun _ _ _ h => h) (Or.inl ⟨by rfl, ?_⟩) ?_ ?_
                                               rotate_left
                                               ·
                                                intro w'
                                                go_simp
                                                with_reducible rfl
                                               rotate_left
                                               ·
                                                simp only [Act.put, List.setIfInBounds_toArray, List.set_cons_zero, List.set_cons_succ, i64_w, i32_w]
                                                rfl
                                               refine pure_ (i := 6) (N := some 313) (v := ?_) (a' := ?_) #[true, true, true, true, true, true, true, false, false, false, false, false, false, false, false, false, false, false, false, false, false, false] rfl rfl (any_of HT_.out (by kernel_rfl)) (fun _ _ _ h => h) (Or.inl ⟨by rfl, ?_⟩) ?_ ?_
                                               rotate_left
                                               ·
                                                intro w'
                                                go_simp
                                                with_reducible rfl
                                               rotate_left
                                               ·
                                                simp only [Act.put, List.setIfInBounds_toArray, List.set_cons_zero, List.set_cons_succ, i64_w, i32_w]
                                                rfl
                                               refine pure_ (i := 7) (N := some 314) (v := ?_) (a' := ?_) #[true, true, true, true, true, true, true, true, false, false, false, false, false, false, false, false, false, false, false, false, false, false] rfl rfl (any_of HT_.out (by kernel_rfl)) (fun _ _ _ h => h) (Or.inl ⟨by rfl, ?_⟩) ?_ ?_
                                               rotate_left
                                               ·
                                                intro w'
                                                go_simp
                                                with_reducible rfl
                                               rotate_left
                                               ·
                                                simp only [Act.put, List.setIfInBounds_toArray, List.set_cons_zero, List.set_cons_succ, i64_w, i32_w]
                                                rfl
                                               refine pure_ (i := 8) (N := some 315) (v := ?_) (a' := ?_) #[true, true, true, true, true, true, true, true, true, false, false, false, false, false, false, false, false, false, false, false, false, false] rfl rfl (any_of HT_.out (by kernel_rfl)) (fun _ _ _ h => h) (Or.inl ⟨by rfl, ?_⟩) ?_ ?_
                                               rotate_left
                                               ·
                                                intro w'
                                                go_simp
                                                with_reducible rfl
                                               rotate_left
                                               ·
                                                simp only [Act.put, List.setIfInBounds_toArray, List.set_cons_zero, List.set_cons_succ, i64_w, i32_w]
                                                rfl
                                               refine take_ (i := 9) (N := some 316) (v := ?_) (a' := ?_) #[true, true, true, true, true, true, true, true, true, true, false, false, false, false, false, false, false, false, false, false, false, false] rfl rfl (take_ofW HT_.out HW_.out (by kernel_rfl)) (fun _ _ _ h => h) (Or.inl ⟨by rfl, ?_⟩) hHeld ?_ ?_
                                               rotate_left
                                               ·
                                                rintro w' ⟨s0, s1, s2⟩
                                                go_simp
                                                with_reducible rfl
                                               rotate_left
                                               ·
                                                simp only [Act.put, List.setIfInBounds_toArray, List.set_cons_zero, List.set_cons_succ, i64_w, i32_w]
                                                rfl
                                               refine pure_ (i := 10) (N := some 317) (v := ?_) (a' := ?_) #[true, true, true, true, true, true, true, true, true, true, true, false, false, false, false, false, false, false, false, false, false, false] rfl rfl (any_of HT_.out (by kernel_rfl)) (fun _ _ _ h => h) (Or.inl ⟨by rfl, ?_⟩) ?_ ?_
                                               rotate_left
                                               ·
                                                intro w'
                                                go_simp
                                                with_reducible rfl
                                               rotate_left
                                               ·
                                                simp only [Act.put, List.setIfInBounds_toArray, List.set_cons_zero, List.set_cons_succ, i64_w, i32_w]
                                                rfl
                                               refine pure_ (i := 11) (N := some 318) (v := ?_) (a' := ?_) #[true, true, true, true, true, true, true, true, true, true, true, true, false, false, false, false, false, false, false, false, false, false] rfl rfl (any_of HT_.out (by kernel_rfl)) (fun _ _ _ h => h) (Or.inl ⟨by rfl, ?_⟩) ?_ ?_
                                               rotate_left
                                               ·
                                                intro w'
                                                go_simp
                                                with_reducible rfl
                                               rotate_left
                                               ·
                                                simp only [Act.put, List.setIfInBounds_toArray, List.set_cons_zero, List.set_cons_succ, i64_w, i32_w]
                                                rfl
                                               refine pure_ (i := 12) (N := some 319) (v := ?_) (a' := ?_) #[true, true, true, true, true, true, true, true, true, true, true, true, true, false, false, false, false, false, false, false, false, false] rfl rfl (any_of HT_.out (by kernel_rfl)) (fun _ _ _ h => h) (Or.inl ⟨by rfl, ?_⟩) ?_ ?_
                                               rotate_left
                                               ·
                                                intro w'
                                                go_simp
                                                with_reducible rfl
                                               rotate_left
                                               ·
                                                simp only [Act.put, List.setIfInBounds_toArray, List.set_cons_zero, List.set_cons_succ, i64_w, i32_w]
                                                rfl
                                               refine pure_ (i := 13) (N := some 320) (v := ?_) (a' := ?_) #[true, true, true, true, true, true, true, true, true, true, true, true, true, true, false, false, false, false, false, false, false, false] rfl rfl (any_of HT_.out (by kernel_rfl)) (fun _ _ _ h => h) (Or.inl ⟨by rfl, ?_⟩) ?_ ?_
                                               rotate_left
                                               ·
                                                intro w'
                                                go_simp
                                                with_reducible rfl
                                               rotate_left
                                               ·
                                                simp only [Act.put, List.setIfInBounds_toArray, List.set_cons_zero, List.set_cons_succ, i64_w, i32_w]
                                                rfl
                                               refine pure_ (i := 14) (N := some 321) (v := ?_) (a' := ?_) #[true, true, true, true, true, true, true, true, true, true, true, true, true, true, true, false, false, false, false, false, false, false] rfl rfl (any_of HT_.out (by kernel_rfl)) (fun _ _ _ h => h) (Or.inl ⟨by rfl, ?_⟩) ?_ ?_
                                               rotate_left
                                               ·
                                                intro w'
                                                go_simp
                                                with_reducible rfl
                                               rotate_left
                                               ·
                                                simp only [Act.put, List.setIfInBounds_toArray, List.set_cons_zero, List.set_cons_succ, i64_w, i32_w]
                                                rfl
                                               refine pure_ (i := 15) (N := some 322) (v := ?_) (a' := ?_) #[true, true, true, true, true, true, true, true, true, true, true, true, true, true, true, true, false, false, false, false, false, false] rfl rfl (any_of HT_.out (by kernel_rfl)) (fun _ _ _ h => h) (Or.inl ⟨by rfl, ?_⟩) ?_ ?_
                                               rotate_left
                                               ·
                                                intro w'
                                                go_simp
                                                with_reducible rfl
                                               rotate_left
                                               ·
                                                simp only [Act.put, List.setIfInBounds_toArray, List.set_cons_zero, List.set_cons_succ, i64_w, i32_w]
                                                rfl
                                               refine pure_ (i := 16) (N := some 323) (v := ?_) (a' := ?_) #[true, true, true, true, true, true, true, true, true, true, true, true, true, true, true, true, true, false, false, false, false, false] rfl rfl (any_of HT_.out (by kernel_rfl)) (fun _ _ _ h => h) (Or.inl ⟨by rfl, ?_⟩) ?_ ?_
                                               rotate_left
                                               ·
                                                intro w'
                                                go_simp
                                                with_reducible rfl
                                               rotate_left
                                               ·
                                                simp only [Act.put, List.setIfInBounds_toArray, List.set_cons_zero, List.set_cons_succ, i64_w, i32_w]
                                                rfl
                                               refine pure_ (i := 17) (N := some 324) (v := ?_) (a' := ?_) #[true, true, true, true, true, true, true, true, true, true, true, true, true, true, true, true, true, true, false, false, false, false] rfl rfl (any_of HT_.out (by kernel_rfl)) (fun _ _ _ h => h) (Or.inl ⟨by rfl, ?_⟩) ?_ ?_
                                               rotate_left
                                               ·
                                                intro w'
                                                go_simp
                                                with_reducible rfl
                                               rotate_left
                                               ·
                                                simp only [Act.put, List.setIfInBounds_toArray, List.set_cons_zero, List.set_cons_succ, i64_w, i32_w]
                                                rfl
                                               refine pure_ (i := 18) (N := some 325) (v := ?_) (a' := ?_) #[true, true, true, true, true, true, true, true, true, true, true, true, true, true, true, true, true, true, true, false, false, false] rfl rfl (any_of HT_.out (by kernel_rfl)) (fun _ _ _ h => h) (Or.inl ⟨by rfl, ?_⟩) ?_ ?_
                                               rotate_left
                                               ·
                                                intro w'
                                                go_simp
                                                with_reducible rfl
                                               rotate_left
                                               ·
                                                simp only [Act.put, List.setIfInBounds_toArray, List.set_cons_zero, List.set_cons_succ, i64_w, i32_w]
                                                rfl
                                               refine take_ (i := 19) (N := some 326) (v := ?_) (a' := ?_) #[true, true, true, true, true, true, true, true, true, true, true, true, true, true, true, true, true, true, true, true, false, false] rfl rfl (take_ofW HT_.out HW_.out (by kernel_rfl)) (fun _ _ _ h => h) (Or.inl ⟨by rfl, ?_⟩) hHeld ?_ ?_
                                               rotate_left
                                               ·
                                                rintro w' ⟨s0, s1, s2⟩
                                                go_simp
                                                with_reducible rfl
                                               rotate_left
                                               ·
                                                simp only [Act.put, List.setIfInBounds_toArray, List.set_cons_zero, List.set_cons_succ, i64_w, i32_w]
                                                rfl
                                               refine one_ (i := 20) (N := some 327) #[true, true, true, true, true, true, true, true, true, true, true, true, true, true, true, true, true, true, true, true, true, false] rfl rfl (one_of HT_.out (by kernel_rfl)) (by decide) (fun K hK => ?_)
                                               refine goes_ Try.func22 (by kernel_rfl) rfl #[.slice (some ad420) y422.length co154, .int .i64 (rd t409 x37_8)] (by rfl) rfl rfl (by (try simp only [List.map_toArray, List.map_cons, List.map_nil]); first | done | rfl | (simp only [List.length_drop, List.length_take]; rfl)) ?_
                                               with_reducible refine (spec_HasNumber.calls k8 _ _ y422 (rd t409 x37_8) false _ ?side1 ?side2 A143.out).mono ?_
                                               (case side1 => repeat (first | exact (by repeat (first | (with_reducible exact HR425.out) | (with_reducible refine Kd.C_alloc ?_ _) | (with_reducible refine Kd.C_drewN ?_ _) | (with_reducible refine Kd.C_drew ?_) | exact HR425.out)) | (with_reducible refine Kd.C_alloc ?_ _) | (with_reducible refine Kd.C_drewN ?_ _) | (with_reducible refine Kd.C_drew ?_)))
                                               (case side2 => exact HC425.out)
                                               rintro e w' ⟨rfl, ⟨nd, rfl⟩⟩
                                               refine ⟨_, rfl, ?_⟩
                                               refine hK.out _ _ ⟨hHeld.1, hHeld.2.1, hHeld.2.2⟩ (fun hHeld => ?_)
                                               clear hK K; refine norm_ (a' := ?_) ?_ ?_; rotate_left
                                               ·
                                                show Act.put _ (some 327) _ = _
                                                simp only [Act.put, List.setIfInBounds_toArray, List.set_cons_zero, List.set_cons_succ, i64_w, i32_w]
                                                rfl
                                               refine pure_ (i := 21) (N := some 328) (v := ?_) (a' := ?_) #[true, true, true, true, true, true, true, true, true, true, true, true, true, true, true, true, true, true, true, true, true, true] rfl rfl (any_of HT_.out (by kernel_rfl)) (fun _ _ _ h => h) (Or.inl ⟨by rfl, ?_⟩) ?_ ?_
                                               rotate_left
                                               ·
                                                intro w'
                                                go_simp
                                                with_reducible rfl
                                               rotate_left
                                               ·
                                                simp only [Act.put, List.setIfInBounds_toArray, List.set_cons_zero, List.set_cons_succ, i64_w, i32_w]
                                                rfl
                                               refine done_ (done_of HT_.out (by kernel_rfl)) ?_
                                               try go_wp2_with (first | ((with_reducible refine gate_builtin (b := .append) (xs := #[.tmp 329, .tmp 334]) rfl ?_); (try (refine gate_guard (by rfl) ?_; dsimp only)); at_builtin; refine Kd.R_append k44 (w0 := w) w.heap.size rfl (.tmp 329) (.tmp 334) 40 44 (.agg #[(.int .u8 0), (.int .i16 0)]) 4 rfl Try.underlying40 info44 rfl (by decide) (by omega) u35 x35_8 (⟨(wrap64 (x37_8 + 1)) % 256, 2000⟩ : S44) [.int .u8 ((wrap64 (x37_8 + 1)) % 256), .int .i16 2000] (fun _ => True) (fun _ => False) rfl rfl ?aP (fun _ hk => hk.elim) ?aF ?aO ?aB ?aS ?aL ?_; (case aP => exact k44_mkM _ _ _ (⟨(wrap64 (x37_8 + 1)) % 256, 2000⟩ : S44)); (case aB => exact (by repeat (first | (with_reducible first | exact HB.out | apply below_alloc | apply pw_below_drewN | apply below_drew1) | exact HB.out))); (case aF => exact (fun _ _ => trivial)); (case aO => exact (by (with_reducible repeat (first | apply Kd.R_alloc | apply Kd.R_drewN | apply Kd.R_drew)); exact HO_35.out)); (case aS => exact (below_size (by repeat (first | (with_reducible first | exact HB.out | apply below_alloc | apply pw_below_drewN | apply below_drew1) | exact HB.out)))); (case aL => have := LMc148.out; omega); intro v429 w156 ho hb hg hat; rw [← Ny428.out] at ho; have n0_ := Aside0.mk (Kd.R_over' (by (with_reducible repeat (first | apply Kd.R_alloc | apply Kd.R_drewN | apply Kd.R_drew)); exact HO_20.out) (Kd.R_typed (by (with_reducible repeat (first | apply Kd.R_alloc | apply Kd.R_drewN | apply Kd.R_drew)); exact HO_35.out)) (by decide) hg); have n1_ := Aside0.mk (Kd.R_over' (by (with_reducible repeat (first | apply Kd.R_alloc | apply Kd.R_drewN | apply Kd.R_drew)); exact HO_33.out) (Kd.R_typed (by (with_reducible repeat (first | apply Kd.R_alloc | apply Kd.R_drewN | apply Kd.R_drew)); exact HO_35.out)) (by decide) hg); have n2_ := Aside0.mk (Kd.R_over' (by (with_reducible repeat (first | apply Kd.R_alloc | apply Kd.R_drewN | apply Kd.R_drew)); exact HO_36.out) (Kd.R_typed (by (with_reducible repeat (first | apply Kd.R_alloc | apply Kd.R_drewN | apply Kd.R_drew)); exact HO_35.out)) (by decide) hg); have n3_ := Aside0.mk (hb); have n4_ := Aside0.mk ((show Kd.C (Kd.int .i64) w156 (some ad420) y422.length y422 from by rw [Ny422.out]; exact Kd.C_take (m := (x37_8 : Int).toNat) ((Kd.R_reads' (Kd.R_over' (by (with_reducible repeat (first | apply Kd.R_alloc | apply Kd.R_drewN | apply Kd.R_drew)); exact HO_33.out) (Kd.R_typed (by (with_reducible repeat (first | apply Kd.R_alloc | apply Kd.R_drewN | apply Kd.R_drew)); exact HO_35.out)) (by decide) hg)).2.2) KL155.out)); have n5_ := Aside0.mk (ho); clear HO_20; clear HO_33; clear HO_36; clear HB; clear HR425; clear HO_35; have HO_20 := n0_; have HO_33 := n1_; have HO_36 := n2_; have HB := n3_; have HR425 := n4_; have HO430 := n5_; clear n0_ n1_ n2_ n3_ n4_ n5_; clear ho hb hg hat; have p431 : 0 ≤ (x37_8 : Int) := of_decide_eq_true (by first | (with_reducible assumption) | assumption); have q431 : x37_8 < (t382.length : Int) := of_decide_eq_true (by first | (with_reducible assumption) | assumption); obtain ⟨ad431, e431, hx431_0⟩ := Kd.at_int (Kd.R_reads' HO_20.out).2.2 x37_8 p431 q431; cases e431; replace p431 := eq_true p431; replace q431 := eq_true q431; have p432 : 0 ≤ ((rd t382 x37_8) : Int) := of_decide_eq_true (by first | (with_reducible assumption) | assumption); have q432 : (rd t382 x37_8) < (t409.length : Int) := of_decide_eq_true (by first | (with_reducible assumption) | assumption); obtain ⟨ad432, e432, hx432_0⟩ := Kd.at_int (Kd.R_reads' HO_33.out).2.2 (rd t382 x37_8) p432 q432; obtain rfl : ad420 = ad432 := (by injection e432); replace p432 := eq_true p432; replace q432 := eq_true q432) | ((with_reducible refine gate_builtin (b := .append) (xs := #[.tmp 336, .tmp 344]) rfl ?_); (try (refine gate_guard (by rfl) ?_; dsimp only)); at_builtin; refine Kd.R_append (Kd.int .i64) (w0 := w) w.heap.size rfl (.tmp 336) (.tmp 344) 33 2 (.int .i64 0) 8 rfl Try.underlying33 info2 rfl (by decide) (by omega) u36 x36_8 (rd t409 (rd t382 x37_8)) [.int .i64 (rd t409 (rd t382 x37_8))] (fun k_ => some k_ ≠ (.slice (some ad431) t382.length co82 : Value).ownBlock ∧ some k_ ≠ (.slice (some ad420) t409.length co154 : Value).ownBlock) (fun _ => False) rfl rfl ?aP (fun _ hk => hk.elim) ?aF ?aO ?aB ?aS ?aL ?_; (case aP => exact rfl); (case aB => exact (by repeat (first | (with_reducible first | exact HB.out | apply below_alloc | apply pw_below_drewN | apply below_drew1) | exact HB.out))); (case aF => exact (fun k_ hk => ⟨Kd.fresh' (Kd.R_lt (by (with_reducible repeat (first | apply Kd.R_alloc | apply Kd.R_drewN | apply Kd.R_drew)); exact HO_20.out)) k_ hk, Kd.fresh' (Kd.R_lt (by (with_reducible repeat (first | apply Kd.R_alloc | apply Kd.R_drewN | apply Kd.R_drew)); exact HO_33.out)) k_ hk⟩)); (case aO => exact (by (with_reducible repeat (first | apply Kd.R_alloc | apply Kd.R_drewN | apply Kd.R_drew)); exact HO_36.out)); (case aS => exact (below_size (by repeat (first | (with_reducible first | exact HB.out | apply below_alloc | apply pw_below_drewN | apply below_drew1) | exact HB.out)))); (case aL => have := LMc152.out; omega); intro v434 w157 ho hb hg hat; rw [← Ny433.out] at ho; have n0_ := Aside0.mk (Kd.R_after (ok := (fun k_ => some k_ ≠ (.slice (some ad420) t409.length co154 : Value).ownBlock)) (by (with_reducible repeat (first | apply Kd.R_alloc | apply Kd.R_drewN | apply Kd.R_drew)); exact HO_20.out) hg hat); have n1_ := Aside0.mk (Kd.R_after (ok := (fun k_ => some k_ ≠ (.slice (some ad431) t382.length co82 : Value).ownBlock)) (by (with_reducible repeat (first | apply Kd.R_alloc | apply Kd.R_drewN | apply Kd.R_drew)); exact HO_33.out) hg hat); have n2_ := Aside0.mk (Kd.R_over' (by (with_reducible repeat (first | apply Kd.R_alloc | apply Kd.R_drewN | apply Kd.R_drew)); exact HO430.out) (Kd.R_typed (by (with_reducible repeat (first | apply Kd.R_alloc | apply Kd.R_drewN | apply Kd.R_drew)); exact HO_36.out)) (by decide) hg); have n3_ := Aside0.mk (hb); have n4_ := Aside0.mk ((show Kd.C (Kd.int .i64) w157 (some ad420) y422.length y422 from by rw [Ny422.out]; exact Kd.C_take (m := (x37_8 : Int).toNat) ((Kd.R_reads' (Kd.R_after (ok := (fun k_ => some k_ ≠ (.slice (some ad431) t382.length co82 : Value).ownBlock)) (by (with_reducible repeat (first | apply Kd.R_alloc | apply Kd.R_drewN | apply Kd.R_drew)); exact HO_33.out) hg hat)).2.2) KL155.out)); have n5_ := Aside0.mk (ho); clear HO_20; clear HO_33; clear HO430; clear HB; clear HR425; clear HO_36; have HO_20 := n0_; have HO_33 := n1_; have HO430 := n2_; have HB := n3_; have HR425 := n4_; have HO435 := n5_; clear n0_ n1_ n2_ n3_ n4_ n5_; clear ho hb hg hat))
                                               go_roundg k8
                                               case measure => have := HJ2.out; have := HJ13.out; have := HK3.out; have := HJ53.out; have := HK5.out; have := HJ78.out; have := HJ106.out; have := HK8.out; omega
                                               case rel => exact ⟨(y428), (y433), (wrap64 (x37_8 + 1)), (by first | rfl | (simp; done) | (simp [*]; done)), H', ⟨by have := HJ2.out; have := HJ13.out; have := HK3.out; have := HJ53.out; have := HK5.out; have := HJ78.out; have := HJ106.out; have := HK8.out; omega⟩, ⟨by (with_reducible repeat (first | apply Kd.R_alloc | apply Kd.R_drewN | apply Kd.R_drew)); exact HO_20.out⟩, ⟨by (with_reducible repeat (first | apply Kd.R_alloc | apply Kd.R_drewN | apply Kd.R_drew)); exact HO_33.out⟩, ⟨by (with_reducible repeat (first | apply Kd.R_alloc | apply Kd.R_drewN | apply Kd.R_drew)); exact HO430.out⟩, ⟨by (with_reducible repeat (first | apply Kd.R_alloc | apply Kd.R_drewN | apply Kd.R_drew)); exact HO435.out⟩, ⟨by repeat (first | (with_reducible first | exact HB.out | apply below_alloc | apply pw_below_drewN | apply below_drew1) | exact HB.out)⟩⟩
                                              ·
                                               rw [if_neg c152] at H; exact absurd H (by simp)
                                             ·
                                              rw [if_neg c151] at H; exact absurd H (by simp)
                                            ·
                                             rw [if_neg c150] at H; exact absurd H (by simp)
                                           ·
                                            rw [if_neg c149] at H; exact absurd H (by simp)
                                          ·
                                           rw [if_neg c148] at H; exact absurd H (by simp)
                                        ·
                                         rw [if_neg c142] at H; exact absurd H (by simp)
                                     ·
                                      rw [if_neg c134] at H; exact absurd H (by simp)
                                    ·
                                     rw [if_neg c133] at H; exact absurd H (by simp)
                                   ·
                                    rw [if_neg c132] at H; have c132b0 : decide (x37_8 < (wrap64 (1 + t355))) = false := decide_eq_false c132
                                    clear c132; replace H := Option.bind_eq_some_iff.mp H; obtain ⟨⟨t436, t437⟩, A1580, H⟩ := H; replace H : (if t437 = 0 then (laws_FnFollows.j9 k8 (wrap64 (1 + t355)) t382 x35_8 t436 ((t436.length : Int) != (wrap64 (1 + t355)))) else (laws_FnFollows.j9 k8 (wrap64 (1 + t355)) t382 x35_8 t436 true)) = some r := H
                                    have A158 := Aside0.mk A1580; clear A1580; have HC159 := Aside0.mk H; clear H; obtain ⟨Ao160, co160, eo160⟩ := Kd.R_slice HO_33.out
                                    subst eo160; obtain ⟨Ao161, co161, eo161⟩ := Kd.R_slice HO_36.out
                                    subst eo161; obtain ⟨Ao162, co162, eo162⟩ := Kd.R_slice HO_35.out
                                    subst eo162; go_upto_region 50 with (first | ((with_reducible refine gate_callee (f := 23) rfl ?_); refine goesL_ (some 350) rfl rfl Try.func23 (by kernel_rfl) rfl #[.slice Ao160 t409.length co160, .slice Ao161 x36_8.length co161, .slice Ao162 x35_8.length co162] rfl (by (try simp only [List.map_toArray, List.map_cons, List.map_nil]); first | done | rfl | (simp only [List.length_drop, List.length_take]; rfl)) ?_; (with_reducible refine (impl_RevealOrder.calls _ _ t409 _ _ x36_8 _ _ x35_8 t436 t437 _ ?side1 ?side2 ?side3 ?side4 ?side5 ?side6 A158.out).mono ?_); (case side1 => repeat (first | exact (Kd.R_reads' HO_33.out).2.2 | (with_reducible refine Kd.C_alloc ?_ _) | (with_reducible refine Kd.C_drewN ?_ _) | (with_reducible refine Kd.C_drew ?_))); (case side2 => exact (Kd.R_reads' HO_33.out).2.1); (case side3 => repeat (first | exact (Kd.R_reads' HO_36.out).2.2 | (with_reducible refine Kd.C_alloc ?_ _) | (with_reducible refine Kd.C_drewN ?_ _) | (with_reducible refine Kd.C_drew ?_))); (case side4 => exact (Kd.R_reads' HO_36.out).2.1); (case side5 => repeat (first | exact (Kd.R_reads' HO_35.out).2.2 | (with_reducible refine Kd.C_alloc ?_ _) | (with_reducible refine Kd.C_drewN ?_ _) | (with_reducible refine Kd.C_drew ?_))); (case side6 => exact (Kd.R_reads' HO_35.out).2.1); rintro e w163 ⟨v438, rfl, ho0, hb⟩; refine ⟨_, rfl, ?_⟩; have n0_ := Aside0.mk (Kd.R_below (by (with_reducible repeat (first | apply Kd.R_alloc | apply Kd.R_drewN | apply Kd.R_drew)); exact HO_20.out) hb); have n1_ := Aside0.mk (Kd.R_below (by (with_reducible repeat (first | apply Kd.R_alloc | apply Kd.R_drewN | apply Kd.R_drew)); exact HO_33.out) hb); have n2_ := Aside0.mk (Kd.R_elder' (by (with_reducible repeat (first | apply Kd.R_alloc | apply Kd.R_drewN | apply Kd.R_drew)); exact HO_35.out) (Kd.R_base ho0) hb); have n3_ := Aside0.mk (Kd.R_below (by (with_reducible repeat (first | apply Kd.R_alloc | apply Kd.R_drewN | apply Kd.R_drew)); exact HO_36.out) hb); have n4_ := Aside0.mk (Kd.R_lower (Kd.R_new' ho0 (Kd.R_lt (by (with_reducible repeat (first | apply Kd.R_alloc | apply Kd.R_drewN | apply Kd.R_drew)); exact HO_35.out))) (below_size (by repeat (first | (with_reducible first | exact HB.out | apply below_alloc | apply pw_below_drewN | apply below_drew1) | exact HB.out)))); have n5_ := Aside0.mk (below_step (by repeat (first | (with_reducible first | exact HB.out | apply below_alloc | apply pw_below_drewN | apply below_drew1) | exact HB.out)) hb); clear HO_20; clear HO_33; clear HO_35; clear HO_36; clear HB; have HO_20 := n0_; have HO_33 := n1_; have HO_35 := n2_; have HO_36 := n3_; have HO439 := n4_; have HB := n5_; clear n0_ n1_ n2_ n3_ n4_ n5_; (try clear hb); (try clear hb2); (try clear hk); (try clear hi); (try clear ho0)))
                                    (try simp only [Act.put, List.setIfInBounds_toArray, List.set_cons_zero, List.set_cons_succ])
                                    go_cut [360] (fun v360 wc => ∃ (kq : Nat) (x360_158 : Bool), v360 = .bool x360_158 ∧ Aside0 (laws_FnFollows.j9 kq (wrap64 (1 + t355)) t382 x35_8 t436 x360_158 = some r) ∧ Aside0 (kq ≤ k8) ∧ Aside0 (Kd.R (Kd.int .i64) 2 wc w.heap.size (fun _ => True) (.slice Ao82 t382.length co82) t382) ∧ Aside0 (Kd.R k44 44 wc w.heap.size (fun k_ => some k_ ≠ (v438 : Value).ownBlock) (.slice Ao162 x35_8.length co162) x35_8) ∧ Aside0 (Kd.R k44 44 wc w.heap.size (fun k_ => some k_ ≠ ((.slice Ao162 x35_8.length co162) : Value).ownBlock) v438 t436) ∧ Aside0 (Below w.heap.size w wc))
                                    case first =>
                                     refine ?g2430
                                     let rec p2430 : type_of% ?g2430 := by
                                      clear p2430; have H := HC159.out; clear HC159; by_cases c164 : t437 = 0
                                      ·
                                       rw [if_pos c164] at H; have c164b0 : (t437 == 0) = true := beq_iff_eq.mpr c164; have c164b1 : (t437 != 0) = false := bne_eq_false_iff_eq.mpr c164; clear c164; (first | rw [c164b0] | (simp only [i64_w, i32_w]; rw [c164b0]) | skip)
                                       have H' := Aside0.mk H; clear H; obtain ⟨Ao165, co165, eo165⟩ := Kd.R_slice HO439.out
                                       subst eo165; go_wp2
                                       go_meet
                                       case rel => exact ⟨_, (((t436.length : Int) != (wrap64 (1 + t355)))), (by first | rfl | (simp; done) | (simp [*]; done)), H', ⟨by have := HJ2.out; have := HJ13.out; have := HK3.out; have := HJ53.out; have := HK5.out; have := HJ78.out; have := HJ106.out; have := HK8.out; first | omega | exact Nat.le_refl _⟩, ⟨by (with_reducible repeat (first | apply Kd.R_alloc | apply Kd.R_drewN | apply Kd.R_drew)); exact Kd.R_mono HO_20.out (fun _ hk => trivial)⟩, ⟨by (with_reducible repeat (first | apply Kd.R_alloc | apply Kd.R_drewN | apply Kd.R_drew)); exact Kd.R_mono HO_35.out (fun _ hk => hk.2)⟩, ⟨by (with_reducible repeat (first | apply Kd.R_alloc | apply Kd.R_drewN | apply Kd.R_drew)); exact Kd.R_mono HO439.out (fun _ hk => hk.2)⟩, ⟨by repeat (first | (with_reducible first | exact HB.out | apply below_alloc | apply pw_below_drewN | apply below_drew1) | exact HB.out)⟩⟩
                                      ·
                                       rw [if_neg c164] at H; have c164b0 : (t437 == 0) = false := beq_eq_false_iff_ne.mpr c164; have c164b1 : (t437 != 0) = true := bne_iff_ne.mpr c164; (first | rw [c164b0] | (simp only [i64_w, i32_w]; rw [c164b0]) | skip)
                                       exact absurd (H.trans (congrArg some HT.out)) (laws_FnFollows.dead_j9 _ _ _ _ _)
                                     exact p2430
                                    case rest =>
                                     refine ?g2453
                                     let rec p2453 : type_of% ?g2453 := by
                                      clear p2453; clear HC159; try clear c1
                                      try clear q1
                                      try clear c2
                                      try clear p2
                                      try clear p4
                                      try clear q4
                                      try clear hx4
                                      try clear p6
                                      try clear c13
                                      try clear c14
                                      try clear q14
                                      try clear c15
                                      try clear q15
                                      try clear c16
                                      try clear c22
                                      try clear c23
                                      try clear p42
                                      try clear q42
                                      try clear hx42
                                      try clear p43
                                      try clear q43
                                      try clear hx43
                                      try clear p64
                                      try clear c132
                                      try clear c132b0
                                      try clear c133
                                      try clear c134
                                      try clear c142
                                      try clear c142b0
                                      try clear c142b1
                                      try clear c144
                                      try clear q147
                                      try clear c148
                                      try clear c149
                                      try clear c149b0
                                      try clear c150
                                      try clear c150b0
                                      try clear c151
                                      try clear c151b0
                                      try clear c152
                                      try clear q155
                                      try clear c164
                                      try clear c164b0
                                      try clear c164b1
                                      try clear hx420_0
                                      try clear hx421_0
                                      try clear hx426_0
                                      try clear hx431_0
                                      try clear hx432_0
                                      try clear p420
                                      try clear p421
                                      try clear p426
                                      try clear p431
                                      try clear p432
                                      try clear q147
                                      try clear q155
                                      try clear q420
                                      try clear q421
                                      try clear q426
                                      try clear q431
                                      try clear q432
                                      obtain ⟨kq, x360_158, rfl, HA, HJ158, HO_20, HO_35, HO_38, HB⟩ := hcut
                                      cases kq with
                                      | zero => exact absurd HA.out (by simp [laws_FnFollows.j9])
                                      | succ kj158 =>
                                       have H := HA.out; clear HA; simp only [laws_FnFollows.j9] at H
                                       by_cases c166 : x360_158 = true
                                       ·
                                        subst c166; have H1 : (some false) = some r := by rw [if_pos rfl] at H; exact H
                                        clear H; have H := H1; clear H1; exact absurd (Option.some.inj (H.trans (congrArg some HT.out))) Bool.false_ne_true
                                       ·
                                        replace c166 := Bool.eq_false_iff.mpr c166; subst c166; have H1 : (laws_FnFollows.l4 kj158 (wrap64 (1 + t355)) t382 x35_8 t436 0) = some r := by rw [if_neg (show ¬ (false = true) by decide)] at H; exact H
                                        clear H; have H := H1; clear H1; have H' := Aside0.mk H; clear H; go_wp2
                                        go_loopg [40] kj158 (fun kq v40 w' => ∃ (x40_10 : Int), v40 = .int .i64 x40_10 ∧ Aside0 (laws_FnFollows.l4 kq (wrap64 (1 + t355)) t382 x35_8 t436 x40_10 = some r) ∧ Aside0 (kq ≤ kj158) ∧ Aside0 (Kd.R (Kd.int .i64) 2 w' w.heap.size (fun _ => True) (.slice Ao82 t382.length co82) t382) ∧ Aside0 (Kd.R k44 44 w' w.heap.size (fun k_ => some k_ ≠ (v438 : Value).ownBlock) (.slice Ao162 x35_8.length co162) x35_8) ∧ Aside0 (Kd.R k44 44 w' w.heap.size (fun k_ => some k_ ≠ ((.slice Ao162 x35_8.length co162) : Value).ownBlock) v438 t436) ∧ Aside0 (Below w.heap.size w w'))
                                        case atStart => exact ⟨(0), (by first | rfl | (simp; done) | (simp [*]; done)), H', ⟨Nat.le_refl _⟩, ⟨by (with_reducible repeat (first | apply Kd.R_alloc | apply Kd.R_drewN | apply Kd.R_drew)); exact HO_20.out⟩, ⟨by (with_reducible repeat (first | apply Kd.R_alloc | apply Kd.R_drewN | apply Kd.R_drew)); exact HO_35.out⟩, ⟨by (with_reducible repeat (first | apply Kd.R_alloc | apply Kd.R_drewN | apply Kd.R_drew)); exact HO_38.out⟩, ⟨by repeat (first | (with_reducible first | exact HB.out | apply below_alloc | apply pw_below_drewN | apply below_drew1) | exact HB.out)⟩⟩
                                        case round =>
                                         refine ?g2543
                                         let rec p2543 : type_of% ?g2543 := by
                                          clear p2543; clear H'; try clear c1
                                          try clear q1
                                          try clear c2
                                          try clear p2
                                          try clear p4
                                          try clear q4
                                          try clear hx4
                                          try clear p6
                                          try clear c13
                                          try clear c14
                                          try clear q14
                                          try clear c15
                                          try clear q15
                                          try clear c16
                                          try clear c22
                                          try clear c23
                                          try clear p42
                                          try clear q42
                                          try clear hx42
                                          try clear p43
                                          try clear q43
                                          try clear hx43
                                          try clear p64
                                          try clear c132
                                          try clear c132b0
                                          try clear c133
                                          try clear c134
                                          try clear c142
                                          try clear c142b0
                                          try clear c142b1
                                          try clear c144
                                          try clear q147
                                          try clear c148
                                          try clear c149
                                          try clear c149b0
                                          try clear c150
                                          try clear c150b0
                                          try clear c151
                                          try clear c151b0
                                          try clear c152
                                          try clear q155
                                          try clear c164
                                          try clear c164b0
                                          try clear c164b1
                                          try clear c166
                                          try clear hx420_0
                                          try clear hx421_0
                                          try clear hx426_0
                                          try clear hx431_0
                                          try clear hx432_0
                                          try clear p2
                                          try clear p4
                                          try clear p42
                                          try clear p420
                                          try clear p421
                                          try clear p426
                                          try clear p43
                                          try clear p431
                                          try clear p432
                                          try clear p6
                                          try clear p64
                                          try clear q1
                                          try clear q14
                                          try clear q147
                                          try clear q15
                                          try clear q155
                                          try clear q4
                                          try clear q42
                                          try clear q420
                                          try clear q421
                                          try clear q426
                                          try clear q43
                                          try clear q431
                                          try clear q432
                                          obtain ⟨x40_10, rfl, HA, HK10, HO_20, HO_35, HO_38, HB⟩ := hrel
                                          cases gk with
                                          | zero => exact absurd HA.out (by simp [laws_FnFollows.l4])
                                          | succ k10 =>
                                           have H := HA.out; clear HA; simp only [laws_FnFollows.l4] at H
                                           by_cases c167 : x40_10 < (wrap64 (1 + t355))
                                           ·
                                            rw [if_pos c167] at H; have c167b0 : decide (x40_10 < (wrap64 (1 + t355))) = true := decide_eq_true c167
                                            clear c167; by_cases c168 : 0 ≤ x40_10
                                            ·
                                             rw [if_pos c168] at H; have c168b0 : decide (0 ≤ x40_10) = true := decide_eq_true c168
                                             clear c168; by_cases c169 : x40_10 < (t436.length : Int)
                                             ·
                                              rw [if_pos c169] at H; have c169b0 : decide (x40_10 < (t436.length : Int)) = true := decide_eq_true c169
                                              clear c169; by_cases c170 : x40_10 < (t382.length : Int)
                                              ·
                                               rw [if_pos c170] at H; have c170b0 : decide (x40_10 < (t382.length : Int)) = true := decide_eq_true c170
                                               clear c170; by_cases c171 : 0 ≤ (rd t382 x40_10)
                                               ·
                                                rw [if_pos c171] at H; have c171b0 : decide (0 ≤ (rd t382 x40_10)) = true := decide_eq_true c171
                                                clear c171; by_cases c172 : (rd t382 x40_10) < (x35_8.length : Int)
                                                ·
                                                 rw [if_pos c172] at H; have c172b0 : decide ((rd t382 x40_10) < (x35_8.length : Int)) = true := decide_eq_true c172
                                                 clear c172; by_cases c173 : (!(((rd_T44 t436 x40_10).f0) == ((rd_T44 x35_8 (rd t382 x40_10)).f0)) || (!(((rd_T44 t436 x40_10).f1) == ((rd_T44 x35_8 (rd t382 x40_10)).f1)))) = true
                                                 ·
                                                  rw [if_pos c173] at H; have c173b0 : (!(((rd_T44 t436 x40_10).f0) == ((rd_T44 x35_8 (rd t382 x40_10)).f0)) || (!(((rd_T44 t436 x40_10).f1) == ((rd_T44 x35_8 (rd t382 x40_10)).f1)))) = true := c173
                                                  clear c173; exact absurd (Option.some.inj (H.trans (congrArg some HT.out))) Bool.false_ne_true
                                                 ·
                                                  rw [if_neg c173] at H; have c173b0 : (!(((rd_T44 t436 x40_10).f0) == ((rd_T44 x35_8 (rd t382 x40_10)).f0)) || (!(((rd_T44 t436 x40_10).f1) == ((rd_T44 x35_8 (rd t382 x40_10)).f1)))) = false := by simpa using c173
                                                  clear c173; have H' := Aside0.mk H; clear H; try go_wp2
                                                  have n0_ := Aside0.mk (Kd.R_drew HO_20.out)
                                                  have n1_ := Aside0.mk (Kd.R_drew HO_35.out)
                                                  have n2_ := Aside0.mk (Kd.R_drew HO_38.out)
                                                  have n3_ := Aside0.mk (below_drew1 HB.out)
                                                  clear HO_20; clear HO_35; clear HO_38; clear HB; have HO_20 := n0_; have HO_35 := n1_; have HO_38 := n2_; have HB := n3_; clear n0_ n1_ n2_ n3_; obtain ⟨Ao177, co177, eo177⟩ := Kd.R_slice HO_38.out
                                                  (first | subst eo177 | (injection eo177 with f1_ f2_ f3_; have f4_ := f1_.symm; have f5_ := f3_.symm; clear f1_ f2_ f3_; subst f4_; subst f5_))
                                                  have p440 : 0 ≤ (x40_10 : Int) := of_decide_eq_true (by first | (with_reducible assumption) | assumption)
                                                  have q440 : x40_10 < (t436.length : Int) := of_decide_eq_true (by first | (with_reducible assumption) | assumption)
                                                  obtain ⟨ad440, e440, hx440_0, hx440_1⟩ := at_T44 (Kd.R_reads' HO_38.out).2.2 x40_10 p440 q440
                                                  cases e440
                                                  replace p440 := eq_true p440
                                                  replace q440 := eq_true q440
                                                  have p441 : 0 ≤ (x40_10 : Int) := of_decide_eq_true (by first | (with_reducible assumption) | assumption)
                                                  have q441 : x40_10 < (t382.length : Int) := of_decide_eq_true (by first | (with_reducible assumption) | assumption)
                                                  obtain ⟨ad441, e441, hx441_0⟩ := Kd.at_int (Kd.R_reads' HO_20.out).2.2 x40_10 p441 q441
                                                  cases e441
                                                  replace p441 := eq_true p441
                                                  replace q441 := eq_true q441
                                                  have p442 : 0 ≤ ((rd t382 x40_10) : Int) := of_decide_eq_true (by first | (with_reducible assumption) | assumption)
                                                  have q442 : (rd t382 x40_10) < (x35_8.length : Int) := of_decide_eq_true (by first | (with_reducible assumption) | assumption)
                                                  obtain ⟨ad442, e442, hx442_0, hx442_1⟩ := at_T44 (Kd.R_reads' HO_35.out).2.2 (rd t382 x40_10) p442 q442
                                                  cases e442
                                                  replace p442 := eq_true p442
                                                  replace q442 := eq_true q442
                                                  refine start_ (n := 12) (S := fun w' => w'.cell? (ad440.add ((x40_10).toNat * 2)) = some (.int .u8 ((rd_T44 t436 x40_10).f0)) ∧ w'.cell? ⟨(ad440.add ((x40_10).toNat * 2)).block, (ad440.add ((x40_10).toNat * 2)).off + 1, none⟩ = some (.int .i16 ((rd_T44 t436 x40_10).f1)) ∧ w'.cell? (ad441.add (x40_10).toNat) = some (.int .i64 (rd t382 x40_10)) ∧ w'.cell? (ad442.add (((rd t382 x40_10)).toNat * 2)) = some (.int .u8 ((rd_T44 x35_8 (rd t382 x40_10)).f0)) ∧ w'.cell? ⟨(ad442.add (((rd t382 x40_10)).toNat * 2)).block, (ad442.add (((rd t382 x40_10)).toNat * 2)).off + 1, none⟩ = some (.int .i16 ((rd_T44 x35_8 (rd t382 x40_10)).f1))) (ds := []) #[false, false, false, false, false, false, false, false, false, false, false, false] (by kernel_rfl) rfl rfl ⟨hx440_0, hx440_1, hx441_0, hx442_0, hx442_1⟩ (fun hHeld => ?_); refine with_tabW laws_FnFollows.tab55 laws_FnFollows.bits55 (fun HT_ HW_ => ?_)
                                                  generalize wr.drew = w176 at HO_20 HO_35 HO_38 HB hx440_0 hx440_1 hx441_0 hx442_0 hx442_1 hHeld ⊢
                                                  refine pure_ (i := 0) (N := some 366) (v := ?_) (a' := ?_) #[true, false, false, false, false, false, false, false, false, false, false, false] rfl rfl (any_of HT_.out (by kernel_rfl)) (fun _ _ _ h => h) (Or.inl ⟨by rfl, ?_⟩) ?_ ?_
                                                  rotate_left
                                                  ·
                                                   intro w'
                                                   go_simp
                                                   with_reducible rfl
                                                  rotate_left
                                                  ·
                                                   simp only [Act.put, List.setIfInBounds_toArray, List.set_cons_zero, List.set_cons_succ, i64_w, i32_w]
                                                   rfl
                                                  refine pure_ (i := 1) (N := some 367) (v := ?_) (a' := ?_) #[true, true, false, false, false, false, false, false, false, false, false, false] rfl rfl (any_of HT_.out (by kernel_rfl)) (fun _ _ _ h => h) (Or.inl ⟨by rfl, ?_⟩) ?_ ?_
                                                  rotate_left
                                                  ·
                                                   intro w'
                                                   go_simp
                                                   with_reducible rfl
                                                  rotate_left
                                                  ·
                                                   simp only [Act.put, List.setIfInBounds_toArray, List.set_cons_zero, List.set_cons_succ, i64_w, i32_w]
                                                   rfl
                                                  refine pure_ (i := 2) (N := some 368) (v := ?_) (a' := ?_) #[true, true, true, false, false, false, false, false, false, false, false, false] rfl rfl (any_of HT_.out (by kernel_rfl)) (fun _ _ _ h => h) (Or.inl ⟨by rfl, ?_⟩) ?_ ?_
                                                  rotate_left
                                                  ·
                                                   intro w'
                                                   go_simp
                                                   with_reducible rfl
                                                  rotate_left
                                                  ·
                                                   simp only [Act.put, List.setIfInBounds_toArray, List.set_cons_zero, List.set_cons_succ, i64_w, i32_w]
                                                   rfl
                                                  refine pure_ (i := 4) (N := some 370) (v := ?_) (a' := ?_) #[true, true, true, false, true, false, false, false, false, false, false, false] rfl rfl (any_of HT_.out (by kernel_rfl)) (fun _ _ _ h => h) (Or.inl ⟨by rfl, ?_⟩) ?_ ?_
                                                  rotate_left
                                                  ·
                                                   intro w'
                                                   go_simp
                                                   with_reducible rfl
                                                  rotate_left
                                                  ·
                                                   simp only [Act.put, List.setIfInBounds_toArray, List.set_cons_zero, List.set_cons_succ, i64_w, i32_w]
                                                   rfl
                                                  refine pure_ (i := 5) (N := some 371) (v := ?_) (a' := ?_) #[true, true, true, false, true, true, false, false, false, false, false, false] rfl rfl (any_of HT_.out (by kernel_rfl)) (fun _ _ _ h => h) (Or.inl ⟨by rfl, ?_⟩) ?_ ?_
                                                  rotate_left
                                                  ·
                                                   intro w'
                                                   go_simp
                                                   with_reducible rfl
                                                  rotate_left
                                                  ·
                                                   simp only [Act.put, List.setIfInBounds_toArray, List.set_cons_zero, List.set_cons_succ, i64_w, i32_w]
                                                   rfl
                                                  refine pure_ (i := 6) (N := some 372) (v := ?_) (a' := ?_) #[true, true, true, false, true, true, true, false, false, false, false, false] rfl rfl (any_of HT_.out (by kernel_rfl)) (fun _ _ _ h => h) (Or.inl ⟨by rfl, ?_⟩) ?_ ?_
                                                  rotate_left
                                                  ·
                                                   intro w'
                                                   go_simp
                                                   with_reducible rfl
                                                  rotate_left
                                                  ·
                                                   simp only [Act.put, List.setIfInBounds_toArray, List.set_cons_zero, List.set_cons_succ, i64_w, i32_w]
                                                   rfl
                                                  refine pure_ (i := 7) (N := some 373) (v := ?_) (a' := ?_) #[true, true, true, false, true, true, true, true, false, false, false, false] rfl rfl (any_of HT_.out (by kernel_rfl)) (fun _ _ _ h => h) (Or.inl ⟨by rfl, ?_⟩) ?_ ?_
                                                  rotate_left
                                                  ·
                                                   intro w'
                                                   go_simp
                                                   with_reducible rfl
                                                  rotate_left
                                                  ·
                                                   simp only [Act.put, List.setIfInBounds_toArray, List.set_cons_zero, List.set_cons_succ, i64_w, i32_w]
                                                   rfl
                                                  refine take_ (i := 3) (N := some 369) (v := ?_) (a' := ?_) #[true, true, true, true, true, true, true, true, false, false, false, false] rfl rfl (take_ofW HT_.out HW_.out (by kernel_rfl)) (fun _ _ _ h => h) (Or.inl ⟨by rfl, ?_⟩) hHeld ?_ ?_
                                                  rotate_left
                                                  ·
                                                   rintro w' ⟨s0, s1, s2, s3, s4⟩
                                                   go_simp
                                                   with_reducible rfl
                                                  rotate_left
                                                  ·
                                                   simp only [Act.put, List.setIfInBounds_toArray, List.set_cons_zero, List.set_cons_succ, i64_w, i32_w]
                                                   rfl
                                                  refine take_ (i := 8) (N := some 374) (v := ?_) (a' := ?_) #[true, true, true, true, true, true, true, true, true, false, false, false] rfl rfl (take_ofW HT_.out HW_.out (by kernel_rfl)) (fun _ _ _ h => h) (Or.inl ⟨by rfl, ?_⟩) hHeld ?_ ?_
                                                  rotate_left
                                                  ·
                                                   rintro w' ⟨s0, s1, s2, s3, s4⟩
                                                   go_simp
                                                   with_reducible rfl
                                                  rotate_left
                                                  ·
                                                   simp only [Act.put, List.setIfInBounds_toArray, List.set_cons_zero, List.set_cons_succ, i64_w, i32_w]
                                                   rfl
                                                  refine pure_ (i := 9) (N := some 375) (v := ?_) (a' := ?_) #[true, true, true, true, true, true, true, true, true, true, false, false] rfl rfl (any_of HT_.out (by kernel_rfl)) (fun _ _ _ h => h) (Or.inl ⟨by rfl, ?_⟩) ?_ ?_
                                                  rotate_left
                                                  ·
                                                   intro w'
                                                   go_simp
                                                   with_reducible rfl
                                                  rotate_left
                                                  ·
                                                   simp only [Act.put, List.setIfInBounds_toArray, List.set_cons_zero, List.set_cons_succ, i64_w, i32_w]
                                                   rfl
                                                  refine take_ (i := 10) (N := some 376) (v := ?_) (a' := ?_) #[true, true, true, true, true, true, true, true, true, true, true, false] rfl rfl (take_ofW HT_.out HW_.out (by kernel_rfl)) (fun _ _ _ h => h) (Or.inl ⟨by rfl, ?_⟩) hHeld ?_ ?_
                                                  rotate_left
                                                  ·
                                                   rintro w' ⟨s0, s1, s2, s3, s4⟩
                                                   go_simp
                                                   with_reducible rfl
                                                  rotate_left
                                                  ·
                                                   simp only [Act.put, List.setIfInBounds_toArray, List.set_cons_zero, List.set_cons_succ, i64_w, i32_w]
                                                   rfl
                                                  refine pure_ (i := 11) (N := some 377) (v := ?_) (a' := ?_) #[true, true, true, true, true, true, true, true, true, true, true, true] rfl rfl (any_of HT_.out (by kernel_rfl)) (fun _ _ _ h => h) (Or.inl ⟨by rfl, ?_⟩) ?_ ?_
                                                  rotate_left
                                                  ·
                                                   intro w'
                                                   go_simp
                                                   with_reducible rfl
                                                  rotate_left
                                                  ·
                                                   simp only [Act.put, List.setIfInBounds_toArray, List.set_cons_zero, List.set_cons_succ, i64_w, i32_w]
                                                   rfl
                                                  refine done_ (done_of HT_.out (by kernel_rfl)) ?_
                                                  try go_wp2
                                                  go_roundg k10
                                                  case measure => have := HJ2.out; have := HJ13.out; have := HK3.out; have := HJ53.out; have := HK5.out; have := HJ78.out; have := HJ106.out; have := HK8.out; have := HJ158.out; have := HK10.out; omega
                                                  case rel => exact ⟨(wrap64 (x40_10 + 1)), (by first | rfl | (simp; done) | (simp [*]; done)), H', ⟨by have := HJ2.out; have := HJ13.out; have := HK3.out; have := HJ53.out; have := HK5.out; have := HJ78.out; have := HJ106.out; have := HK8.out; have := HJ158.out; have := HK10.out; omega⟩, ⟨by (with_reducible repeat (first | apply Kd.R_alloc | apply Kd.R_drewN | apply Kd.R_drew)); exact HO_20.out⟩, ⟨by (with_reducible repeat (first | apply Kd.R_alloc | apply Kd.R_drewN | apply Kd.R_drew)); exact HO_35.out⟩, ⟨by (with_reducible repeat (first | apply Kd.R_alloc | apply Kd.R_drewN | apply Kd.R_drew)); exact HO_38.out⟩, ⟨by repeat (first | (with_reducible first | exact HB.out | apply below_alloc | apply pw_below_drewN | apply below_drew1) | exact HB.out)⟩⟩
                                                ·
                                                 rw [if_neg c172] at H; exact absurd H (by simp)
                                               ·
                                                rw [if_neg c171] at H; exact absurd H (by simp)
                                              ·
                                               rw [if_neg c170] at H; exact absurd H (by simp)
                                             ·
                                              rw [if_neg c169] at H; exact absurd H (by simp)
                                            ·
                                             rw [if_neg c168] at H; exact absurd H (by simp)
                                           ·
                                            rw [if_neg c167] at H; have c167b0 : decide (x40_10 < (wrap64 (1 + t355))) = false := decide_eq_false c167
                                            clear c167; obtain rfl := Option.some.inj H; go_wp2
                                            go_ret
                                            exact ⟨by first | rfl | (simp [errW_none, errW_some] <;> rfl) | (simp [*, errW_none, errW_some] <;> rfl), by repeat (first | (with_reducible first | exact HB.out | apply below_alloc | apply pw_below_drewN | apply below_drew1) | exact HB.out)⟩
                                         exact p2543
                                     exact p2453
                                 exact p1883
                             exact p1746
                           ·
                            rw [if_neg c104] at H; exact absurd H (by simp)
                          ·
                           rw [if_neg c103] at H; exact absurd H (by simp)
                         ·
                          rw [if_neg c99] at H; exact absurd H (by simp)
                        ·
                         rw [if_neg c98] at H; exact absurd H (by simp)
                     exact p1015
                 exact p550
              exact p478
          exact p340
      exact p275
  exact p75
def laws_FnFollows.Pure : Prop := ∀ (l0 : List Int) (l1 : List Int), l0.length ≤ maxLen → l0.length * 1 ≤ 140737488351232 → (∀ x ∈ l0, (Lit.int .u8 x).wf = true) → l1.length ≤ maxLen → l1.length * 1 ≤ 140737488351232 → (∀ x ∈ l1, (Lit.int .u8 x).wf = true) → ∃ k, laws_FnFollows.f k l0 l1 = some true
theorem laws_FnFollows.walk (P : laws_FnFollows.Pure) (a0 : Option Addr) (len0 cap0 : Nat) (z0 : List Int) (a1 : Option Addr) (len1 cap1 : Nat) (z1 : List Int) (w : World) (w0 : (a0 = none ∧ len0 = 0 ∧ cap0 = 0 ∧ z0 = []) ∨ ∃ x, a0 = some x ∧ len0 ≤ cap0 ∧ cap0 ≤ maxLen ∧ z0.length = cap0 ∧ (∀ i, i < z0.length → w.cell? (x.add i) = some (.int .u8 (z0.getD i 0))) ∧ ∀ n ∈ z0, (Lit.int .u8 n).wf = true) (y0 : len0 * 1 ≤ 140737488351232) (w1 : (a1 = none ∧ len1 = 0 ∧ cap1 = 0 ∧ z1 = []) ∨ ∃ x, a1 = some x ∧ len1 ≤ cap1 ∧ cap1 ≤ maxLen ∧ z1.length = cap1 ∧ (∀ i, i < z1.length → w.cell? (x.add i) = some (.int .u8 (z1.getD i 0))) ∧ ∀ n ∈ z1, (Lit.int .u8 n).wf = true) (y1 : len1 * 1 ≤ 140737488351232) :
    Calls Try.prog 3 #[.slice a0 len0 cap0, .slice a1 len1 cap1] w fun e w' => e = .returned (.bool true) ∧ Below w.heap.size w w' := by
  obtain ⟨l0, rfl, hr0, hm0, hw0, hc0⟩ := ReadsInt.ofRowC w0
  obtain ⟨l1, rfl, hr1, hm1, hw1, hc1⟩ := ReadsInt.ofRowC w1
  obtain ⟨k, h⟩ := P l0 l1 hm0 y0 hw0 hm1 y1 hw1
  refine (laws_FnFollows.calls k _ _ l0 _ _ l1 true w (Kd.C_of_reads (d := (0 : Int)) (h1 := fun _ => rfl) hr0) hc0 (Kd.C_of_reads (d := (0 : Int)) (h1 := fun _ => rfl) hr1) hc1 h rfl).mono ?_
  rintro e w' ⟨rfl, hd⟩
  exact ⟨rfl, hd⟩
end Go.Proofs.Ytbhcdefemmpkpaa.G
