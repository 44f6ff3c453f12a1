import Derived.Test.YthbblaapmmhclaaZG0
import Derived.Test.YthbblaapmmhclaaZFRepeatsB
import Derived.Test.YthbblaapmmhclaaZG2
import Derived.Test.YthbblaapmmhclaaZG3
import Derived.Test.YthbblaapmmhclaaZG4
import Derived.Test.YthbblaapmmhclaaZG5
import Derived.Test.YthbblaapmmhclaaZG6
import Derived.Test.YthbblaapmmhclaaZG7a
namespace Go.Proofs.Ythbblaapmmhclaa.G
open Go.RowKit Go.Proofs.YthbblaapmmhclaaW.PrintWords Go.Proofs.YthbblaapmmhclaaW.PrintLast Go.Proofs.YthbblaapmmhclaaW.PrintMore
attribute [local go_sem] max2_int min2_int max_two min_two max_three min_three max_four min_four
set_option linter.unusedVariables false
set_option linter.unusedSimpArgs false
set_option maxHeartbeats 8000000 in
set_option maxRecDepth 100000 in
theorem laws_FnRepeats.calls (k : Nat) (A0 : Option Addr) (c0 : Nat) (l0 : List Int) (A1 : Option Addr) (c1 : Nat) (l1 : List Int) (r : Bool) (w : World) (hr0 : Kd.C (Kd.int .u8) w A0 l0.length l0) (hc0 : l0.length ≤ c0) (hr1 : Kd.C (Kd.int .u8) w A1 l1.length l1) (hc1 : l1.length ≤ c1) (h : laws_FnRepeats.f k l0 l1 = some r) (hT : r = true) :
  Calls Try.prog 7 #[.slice A0 l0.length c0, .slice A1 l1.length c1] w fun e w' => e = .returned (.bool r) ∧ Below w.heap.size w w' := by
 have HT := Lib.hid hT
 clear hT; have hu53 := Try.underlying53
 have HR0 := Aside0.mk hr0; have HC0 := Aside0.mk hc0; clear hr0 hc0; have HR1 := Aside0.mk hr1; have HC1 := Aside0.mk hc1; clear hr1 hc1; have HB := Aside0.mk (Below.refl w.heap.size w)
 have H : ((laws_f6big.f l0).bind fun t347 => (if t347 = true then (laws_FnRepeats.j0 k l0 l1 true) else ((laws_f6big.f l1).bind fun t348 => (laws_FnRepeats.j0 k l0 l1 t348)))) = some r := h
 clear h; have HC3 := Aside0.mk H; clear H; go_enter Try.func7, Try.ntmps7
 go_upto_region 1 with (fail)
 go_cut [56] (fun v56 wc => ∃ (kq : Nat) (x56_2 : Bool), v56 = .bool x56_2 ∧ Aside0 (laws_FnRepeats.j0 kq l0 l1 x56_2 = some r) ∧ Aside0 (kq ≤ k) ∧ Aside0 (Below w.heap.size w wc))
 case first => as_aux_lemma =>
  have H := HC3.out; clear HC3; replace H := Option.bind_eq_some_iff.mp H; obtain ⟨t347, A40, H⟩ := H; replace H : (if t347 = true then (laws_FnRepeats.j0 k l0 l1 true) else ((laws_f6big.f l1).bind fun t348 => (laws_FnRepeats.j0 k l0 l1 t348))) = some r := H
  have A4 := Aside0.mk A40; clear A40; by_cases c5 : t347 = true
  ·
   subst c5; have H1 : (laws_FnRepeats.j0 k l0 l1 true) = some r := by rw [if_pos rfl] at H; exact H
   clear H; have H := H1; clear H1; have H' := Aside0.mk H; clear H; go_wp2_with (first | ((with_reducible refine gate_callee (f := 25) rfl ?_); refine goesL_ (some 52) rfl rfl Try.func25 (by kernel_rfl) rfl #[.slice A0 l0.length c0] rfl (by (try simp only [List.map_toArray, List.map_cons, List.map_nil]); first | done | rfl | (simp only [List.length_drop, List.length_take]; rfl)) ?_; (with_reducible refine (laws_f6big.calls _ _ l0 true _ ?side1 ?side2 A4.out).mono ?_); (case side1 => repeat (first | exact (Kd.C_below HR0.out HB.out) | (with_reducible refine Kd.C_alloc ?_ _) | (with_reducible refine Kd.C_drewN ?_ _) | (with_reducible refine Kd.C_drew ?_))); (case side2 => exact HC0.out); rintro e w' ⟨rfl, ⟨nd, rfl⟩⟩; refine ⟨_, rfl, ?_⟩))
   go_meet
   case rel => exact ⟨_, (true), (by first | rfl | (simp; done) | (simp [*]; done)), H', ⟨by first | omega | exact Nat.le_refl _⟩, ⟨by repeat (first | (with_reducible first | exact HB.out | apply below_alloc | apply pw_below_drewN | apply below_drew1) | exact HB.out)⟩⟩
  ·
   replace c5 := Bool.eq_false_iff.mpr c5; subst c5; have H1 : ((laws_f6big.f l1).bind fun t348 => (laws_FnRepeats.j0 k l0 l1 t348)) = some r := by rw [if_neg (show ¬ (false = true) by decide)] at H; exact H
   clear H; have H := H1; clear H1; replace H := Option.bind_eq_some_iff.mp H; obtain ⟨t348, A60, H⟩ := H; replace H : (laws_FnRepeats.j0 k l0 l1 t348) = some r := H
   have A6 := Aside0.mk A60; clear A60; have H' := Aside0.mk H; clear H; go_wp2_with (first | ((with_reducible refine gate_callee (f := 25) rfl ?_); refine goesL_ (some 52) rfl rfl Try.func25 (by kernel_rfl) rfl #[.slice A0 l0.length c0] rfl (by (try simp only [List.map_toArray, List.map_cons, List.map_nil]); first | done | rfl | (simp only [List.length_drop, List.length_take]; rfl)) ?_; (with_reducible refine (laws_f6big.calls _ _ l0 false _ ?side1 ?side2 A4.out).mono ?_); (case side1 => repeat (first | exact (Kd.C_below HR0.out HB.out) | (with_reducible refine Kd.C_alloc ?_ _) | (with_reducible refine Kd.C_drewN ?_ _) | (with_reducible refine Kd.C_drew ?_))); (case side2 => exact HC0.out); rintro e w' ⟨rfl, ⟨nd, rfl⟩⟩; refine ⟨_, rfl, ?_⟩) | (go_at_call 25; (with_reducible refine (laws_f6big.calls _ _ l1 t348 _ ?side1 ?side2 A6.out).mono ?_); (case side1 => repeat (first | exact (Kd.C_below HR1.out (by repeat (first | (with_reducible first | exact HB.out | apply below_alloc | apply pw_below_drewN | apply below_drew1) | exact HB.out))) | (with_reducible refine Kd.C_alloc ?_ _) | (with_reducible refine Kd.C_drewN ?_ _) | (with_reducible refine Kd.C_drew ?_))); (case side2 => exact HC1.out); rintro e w' ⟨rfl, ⟨nd, rfl⟩⟩))
   go_meet
   case rel => exact ⟨_, (t348), (by first | rfl | (simp; done) | (simp [*]; done)), H', ⟨by first | omega | exact Nat.le_refl _⟩, ⟨by repeat (first | (with_reducible first | exact HB.out | apply below_alloc | apply pw_below_drewN | apply below_drew1) | exact HB.out)⟩⟩
 case rest => as_aux_lemma =>
  clear HC3; try clear c1
  try clear c2
  try clear p2
  try clear c5
  obtain ⟨kq, x56_2, rfl, HA, HJ2, HB⟩ := hcut
  cases kq with
  | zero => exact absurd HA.out (by simp [laws_FnRepeats.j0])
  | succ kj2 =>
   have H := HA.out; clear HA; simp only [laws_FnRepeats.j0] at H
   by_cases c7 : x56_2 = true
   ·
    subst c7; have H1 : (some true) = some r := by rw [if_pos rfl] at H; exact H
    clear H; have H := H1; clear H1; obtain rfl := Option.some.inj H; go_wp2
    go_ret
    exact ⟨by first | rfl | (simp [errW_none, errW_some] <;> rfl) | (simp [*, errW_none, errW_some] <;> rfl), by repeat (first | (with_reducible first | exact HB.out | apply below_alloc | apply pw_below_drewN | apply below_drew1) | exact HB.out)⟩
   ·
    replace c7 := Bool.eq_false_iff.mpr c7; subst c7; have H1 : ((spec_P6Row.f kj2 l0).bind fun t349 => ((spec_P6Walkers.f kj2 l1 (t349.length : Int)).bind fun t352 => ((impl_AllWalkEvery.f kj2 (t349.length : Int) t352).bind fun bt355 => ((spec_AllWalkEvery.f kj2 (t349.length : Int) t352).bind fun bt357 => ((impl_RepeatsBehind.f kj2 (t349.length : Int) t352).bind fun bt359 => ((spec_RepeatsBehind.f kj2 (t349.length : Int) t352).bind fun bt361 => (if bt355.2 = bt357.2 then (if bt355.2 = 0 then (if bt355.1 = bt357.1 then (if bt357.1 < 1 then (laws_FnRepeats.j1 kj2 l0 l1 t349 (t349.length : Int) t352 bt357.1 bt361.1 true) else (if bt359.2 = bt361.2 then (if bt359.2 = 0 then (if bt359.1 = bt361.1 then (if bt357.1 = 0 then (none) else (if (Int.tmod bt361.1 bt357.1) = 0 then (laws_FnRepeats.j1 kj2 l0 l1 t349 (t349.length : Int) t352 bt357.1 bt361.1 (decide (bt361.1 > (wrap64 (8 * bt357.1))))) else (laws_FnRepeats.j1 kj2 l0 l1 t349 (t349.length : Int) t352 bt357.1 bt361.1 true))) else (laws_FnRepeats.j1 kj2 l0 l1 t349 (t349.length : Int) t352 bt357.1 bt361.1 true)) else (laws_FnRepeats.j1 kj2 l0 l1 t349 (t349.length : Int) t352 bt357.1 bt361.1 true)) else (laws_FnRepeats.j1 kj2 l0 l1 t349 (t349.length : Int) t352 bt357.1 bt361.1 true))) else (laws_FnRepeats.j1 kj2 l0 l1 t349 (t349.length : Int) t352 bt357.1 bt361.1 true)) else (laws_FnRepeats.j1 kj2 l0 l1 t349 (t349.length : Int) t352 bt357.1 bt361.1 true)) else (laws_FnRepeats.j1 kj2 l0 l1 t349 (t349.length : Int) t352 bt357.1 bt361.1 true)))))))) = some r := by rw [if_neg (show ¬ (false = true) by decide)] at H; exact H
    clear H; have H := H1; clear H1; replace H := Option.bind_eq_some_iff.mp H; obtain ⟨t349, A80, H⟩ := H; replace H : ((spec_P6Walkers.f kj2 l1 (t349.length : Int)).bind fun t352 => ((impl_AllWalkEvery.f kj2 (t349.length : Int) t352).bind fun bt355 => ((spec_AllWalkEvery.f kj2 (t349.length : Int) t352).bind fun bt357 => ((impl_RepeatsBehind.f kj2 (t349.length : Int) t352).bind fun bt359 => ((spec_RepeatsBehind.f kj2 (t349.length : Int) t352).bind fun bt361 => (if bt355.2 = bt357.2 then (if bt355.2 = 0 then (if bt355.1 = bt357.1 then (if bt357.1 < 1 then (laws_FnRepeats.j1 kj2 l0 l1 t349 (t349.length : Int) t352 bt357.1 bt361.1 true) else (if bt359.2 = bt361.2 then (if bt359.2 = 0 then (if bt359.1 = bt361.1 then (if bt357.1 = 0 then (none) else (if (Int.tmod bt361.1 bt357.1) = 0 then (laws_FnRepeats.j1 kj2 l0 l1 t349 (t349.length : Int) t352 bt357.1 bt361.1 (decide (bt361.1 > (wrap64 (8 * bt357.1))))) else (laws_FnRepeats.j1 kj2 l0 l1 t349 (t349.length : Int) t352 bt357.1 bt361.1 true))) else (laws_FnRepeats.j1 kj2 l0 l1 t349 (t349.length : Int) t352 bt357.1 bt361.1 true)) else (laws_FnRepeats.j1 kj2 l0 l1 t349 (t349.length : Int) t352 bt357.1 bt361.1 true)) else (laws_FnRepeats.j1 kj2 l0 l1 t349 (t349.length : Int) t352 bt357.1 bt361.1 true))) else (laws_FnRepeats.j1 kj2 l0 l1 t349 (t349.length : Int) t352 bt357.1 bt361.1 true)) else (laws_FnRepeats.j1 kj2 l0 l1 t349 (t349.length : Int) t352 bt357.1 bt361.1 true)) else (laws_FnRepeats.j1 kj2 l0 l1 t349 (t349.length : Int) t352 bt357.1 bt361.1 true))))))) = some r := H
    have A8 := Aside0.mk A80; clear A80; replace H := Option.bind_eq_some_iff.mp H; obtain ⟨t352, A90, H⟩ := H; replace H : ((impl_AllWalkEvery.f kj2 (t349.length : Int) t352).bind fun bt355 => ((spec_AllWalkEvery.f kj2 (t349.length : Int) t352).bind fun bt357 => ((impl_RepeatsBehind.f kj2 (t349.length : Int) t352).bind fun bt359 => ((spec_RepeatsBehind.f kj2 (t349.length : Int) t352).bind fun bt361 => (if bt355.2 = bt357.2 then (if bt355.2 = 0 then (if bt355.1 = bt357.1 then (if bt357.1 < 1 then (laws_FnRepeats.j1 kj2 l0 l1 t349 (t349.length : Int) t352 bt357.1 bt361.1 true) else (if bt359.2 = bt361.2 then (if bt359.2 = 0 then (if bt359.1 = bt361.1 then (if bt357.1 = 0 then (none) else (if (Int.tmod bt361.1 bt357.1) = 0 then (laws_FnRepeats.j1 kj2 l0 l1 t349 (t349.length : Int) t352 bt357.1 bt361.1 (decide (bt361.1 > (wrap64 (8 * bt357.1))))) else (laws_FnRepeats.j1 kj2 l0 l1 t349 (t349.length : Int) t352 bt357.1 bt361.1 true))) else (laws_FnRepeats.j1 kj2 l0 l1 t349 (t349.length : Int) t352 bt357.1 bt361.1 true)) else (laws_FnRepeats.j1 kj2 l0 l1 t349 (t349.length : Int) t352 bt357.1 bt361.1 true)) else (laws_FnRepeats.j1 kj2 l0 l1 t349 (t349.length : Int) t352 bt357.1 bt361.1 true))) else (laws_FnRepeats.j1 kj2 l0 l1 t349 (t349.length : Int) t352 bt357.1 bt361.1 true)) else (laws_FnRepeats.j1 kj2 l0 l1 t349 (t349.length : Int) t352 bt357.1 bt361.1 true)) else (laws_FnRepeats.j1 kj2 l0 l1 t349 (t349.length : Int) t352 bt357.1 bt361.1 true)))))) = some r := H
    have A9 := Aside0.mk A90; clear A90; replace H := Option.bind_eq_some_iff.mp H; obtain ⟨⟨t355, t356⟩, A100, H⟩ := H; replace H : ((spec_AllWalkEvery.f kj2 (t349.length : Int) t352).bind fun bt357 => ((impl_RepeatsBehind.f kj2 (t349.length : Int) t352).bind fun bt359 => ((spec_RepeatsBehind.f kj2 (t349.length : Int) t352).bind fun bt361 => (if t356 = bt357.2 then (if t356 = 0 then (if t355 = bt357.1 then (if bt357.1 < 1 then (laws_FnRepeats.j1 kj2 l0 l1 t349 (t349.length : Int) t352 bt357.1 bt361.1 true) else (if bt359.2 = bt361.2 then (if bt359.2 = 0 then (if bt359.1 = bt361.1 then (if bt357.1 = 0 then (none) else (if (Int.tmod bt361.1 bt357.1) = 0 then (laws_FnRepeats.j1 kj2 l0 l1 t349 (t349.length : Int) t352 bt357.1 bt361.1 (decide (bt361.1 > (wrap64 (8 * bt357.1))))) else (laws_FnRepeats.j1 kj2 l0 l1 t349 (t349.length : Int) t352 bt357.1 bt361.1 true))) else (laws_FnRepeats.j1 kj2 l0 l1 t349 (t349.length : Int) t352 bt357.1 bt361.1 true)) else (laws_FnRepeats.j1 kj2 l0 l1 t349 (t349.length : Int) t352 bt357.1 bt361.1 true)) else (laws_FnRepeats.j1 kj2 l0 l1 t349 (t349.length : Int) t352 bt357.1 bt361.1 true))) else (laws_FnRepeats.j1 kj2 l0 l1 t349 (t349.length : Int) t352 bt357.1 bt361.1 true)) else (laws_FnRepeats.j1 kj2 l0 l1 t349 (t349.length : Int) t352 bt357.1 bt361.1 true)) else (laws_FnRepeats.j1 kj2 l0 l1 t349 (t349.length : Int) t352 bt357.1 bt361.1 true))))) = some r := H
    have A10 := Aside0.mk A100; clear A100; replace H := Option.bind_eq_some_iff.mp H; obtain ⟨⟨t357, t358⟩, A110, H⟩ := H; replace H : ((impl_RepeatsBehind.f kj2 (t349.length : Int) t352).bind fun bt359 => ((spec_RepeatsBehind.f kj2 (t349.length : Int) t352).bind fun bt361 => (if t356 = t358 then (if t356 = 0 then (if t355 = t357 then (if t357 < 1 then (laws_FnRepeats.j1 kj2 l0 l1 t349 (t349.length : Int) t352 t357 bt361.1 true) else (if bt359.2 = bt361.2 then (if bt359.2 = 0 then (if bt359.1 = bt361.1 then (if t357 = 0 then (none) else (if (Int.tmod bt361.1 t357) = 0 then (laws_FnRepeats.j1 kj2 l0 l1 t349 (t349.length : Int) t352 t357 bt361.1 (decide (bt361.1 > (wrap64 (8 * t357))))) else (laws_FnRepeats.j1 kj2 l0 l1 t349 (t349.length : Int) t352 t357 bt361.1 true))) else (laws_FnRepeats.j1 kj2 l0 l1 t349 (t349.length : Int) t352 t357 bt361.1 true)) else (laws_FnRepeats.j1 kj2 l0 l1 t349 (t349.length : Int) t352 t357 bt361.1 true)) else (laws_FnRepeats.j1 kj2 l0 l1 t349 (t349.length : Int) t352 t357 bt361.1 true))) else (laws_FnRepeats.j1 kj2 l0 l1 t349 (t349.length : Int) t352 t357 bt361.1 true)) else (laws_FnRepeats.j1 kj2 l0 l1 t349 (t349.length : Int) t352 t357 bt361.1 true)) else (laws_FnRepeats.j1 kj2 l0 l1 t349 (t349.length : Int) t352 t357 bt361.1 true)))) = some r := H
    have A11 := Aside0.mk A110; clear A110; replace H := Option.bind_eq_some_iff.mp H; obtain ⟨⟨t359, t360⟩, A120, H⟩ := H; replace H : ((spec_RepeatsBehind.f kj2 (t349.length : Int) t352).bind fun bt361 => (if t356 = t358 then (if t356 = 0 then (if t355 = t357 then (if t357 < 1 then (laws_FnRepeats.j1 kj2 l0 l1 t349 (t349.length : Int) t352 t357 bt361.1 true) else (if t360 = bt361.2 then (if t360 = 0 then (if t359 = bt361.1 then (if t357 = 0 then (none) else (if (Int.tmod bt361.1 t357) = 0 then (laws_FnRepeats.j1 kj2 l0 l1 t349 (t349.length : Int) t352 t357 bt361.1 (decide (bt361.1 > (wrap64 (8 * t357))))) else (laws_FnRepeats.j1 kj2 l0 l1 t349 (t349.length : Int) t352 t357 bt361.1 true))) else (laws_FnRepeats.j1 kj2 l0 l1 t349 (t349.length : Int) t352 t357 bt361.1 true)) else (laws_FnRepeats.j1 kj2 l0 l1 t349 (t349.length : Int) t352 t357 bt361.1 true)) else (laws_FnRepeats.j1 kj2 l0 l1 t349 (t349.length : Int) t352 t357 bt361.1 true))) else (laws_FnRepeats.j1 kj2 l0 l1 t349 (t349.length : Int) t352 t357 bt361.1 true)) else (laws_FnRepeats.j1 kj2 l0 l1 t349 (t349.length : Int) t352 t357 bt361.1 true)) else (laws_FnRepeats.j1 kj2 l0 l1 t349 (t349.length : Int) t352 t357 bt361.1 true))) = some r := H
    have A12 := Aside0.mk A120; clear A120; replace H := Option.bind_eq_some_iff.mp H; obtain ⟨⟨t361, t362⟩, A130, H⟩ := H; replace H : (if t356 = t358 then (if t356 = 0 then (if t355 = t357 then (if t357 < 1 then (laws_FnRepeats.j1 kj2 l0 l1 t349 (t349.length : Int) t352 t357 t361 true) else (if t360 = t362 then (if t360 = 0 then (if t359 = t361 then (if t357 = 0 then (none) else (if (Int.tmod t361 t357) = 0 then (laws_FnRepeats.j1 kj2 l0 l1 t349 (t349.length : Int) t352 t357 t361 (decide (t361 > (wrap64 (8 * t357))))) else (laws_FnRepeats.j1 kj2 l0 l1 t349 (t349.length : Int) t352 t357 t361 true))) else (laws_FnRepeats.j1 kj2 l0 l1 t349 (t349.length : Int) t352 t357 t361 true)) else (laws_FnRepeats.j1 kj2 l0 l1 t349 (t349.length : Int) t352 t357 t361 true)) else (laws_FnRepeats.j1 kj2 l0 l1 t349 (t349.length : Int) t352 t357 t361 true))) else (laws_FnRepeats.j1 kj2 l0 l1 t349 (t349.length : Int) t352 t357 t361 true)) else (laws_FnRepeats.j1 kj2 l0 l1 t349 (t349.length : Int) t352 t357 t361 true)) else (laws_FnRepeats.j1 kj2 l0 l1 t349 (t349.length : Int) t352 t357 t361 true)) = some r := H
    have A13 := Aside0.mk A130; clear A130; have HC14 := Aside0.mk H; clear H; go_upto_region 10 with (first | ((with_reducible refine gate_callee (f := 26) rfl ?_); refine goesL_ (some 58) rfl rfl Try.func26 (by kernel_rfl) rfl #[.slice A0 l0.length c0] rfl (by (try simp only [List.map_toArray, List.map_cons, List.map_nil]); first | done | rfl | (simp only [List.length_drop, List.length_take]; rfl)) ?_; (with_reducible refine (spec_P6Row.calls kj2 _ _ l0 t349 _ ?side1 ?side2 A8.out).mono ?_); (case side1 => repeat (first | exact (Kd.C_below HR0.out HB.out) | (with_reducible refine Kd.C_alloc ?_ _) | (with_reducible refine Kd.C_drewN ?_ _) | (with_reducible refine Kd.C_drew ?_))); (case side2 => exact HC0.out); rintro e w15 ⟨v350, rfl, ho0, hb⟩; refine ⟨_, rfl, ?_⟩; have n0_ := Aside0.mk (Kd.R_lower ho0 (below_size (by repeat (first | (with_reducible first | exact HB.out | apply below_alloc | apply pw_below_drewN | apply below_drew1) | exact HB.out)))); have n1_ := Aside0.mk (below_step (by repeat (first | (with_reducible first | exact HB.out | apply below_alloc | apply pw_below_drewN | apply below_drew1) | exact HB.out)) hb); clear HB; have HO351 := n0_; have HB := n1_; clear n0_ n1_; (try clear hb); (try clear hb2); (try clear hk); (try clear hi); (try clear ho0); obtain ⟨Ao16, co16, eo16⟩ := Kd.R_slice HO351.out; subst eo16) | ((with_reducible refine gate_callee (f := 27) rfl ?_); refine goesL_ (some 63) rfl rfl Try.func27 (by kernel_rfl) rfl #[.slice A1 l1.length c1, .int .i64 (t349.length : Int)] rfl (by (try simp only [List.map_toArray, List.map_cons, List.map_nil]); first | done | rfl | (simp only [List.length_drop, List.length_take]; rfl)) ?_; (with_reducible refine (spec_P6Walkers.calls kj2 _ _ l1 (t349.length : Int) t352 _ ?side1 ?side2 A9.out).mono ?_); (case side1 => repeat (first | exact (Kd.C_below HR1.out HB.out) | (with_reducible refine Kd.C_alloc ?_ _) | (with_reducible refine Kd.C_drewN ?_ _) | (with_reducible refine Kd.C_drew ?_))); (case side2 => exact HC1.out); rintro e w17 ⟨v353, rfl, ho0, hb⟩; refine ⟨_, rfl, ?_⟩; have n0_ := Aside0.mk (Kd.R_below (by (with_reducible repeat (first | apply Kd.R_alloc | apply Kd.R_drewN | apply Kd.R_drew)); exact HO351.out) hb); have n1_ := Aside0.mk (Kd.R_lower ho0 (below_size (by repeat (first | (with_reducible first | exact HB.out | apply below_alloc | apply pw_below_drewN | apply below_drew1) | exact HB.out)))); have n2_ := Aside0.mk (below_step (by repeat (first | (with_reducible first | exact HB.out | apply below_alloc | apply pw_below_drewN | apply below_drew1) | exact HB.out)) hb); clear HO351; clear HB; have HO351 := n0_; have HO354 := n1_; have HB := n2_; clear n0_ n1_ n2_; (try clear hb); (try clear hb2); (try clear hk); (try clear hi); (try clear ho0); obtain ⟨Ao18, co18, eo18⟩ := Kd.R_slice HO354.out; subst eo18) | ((with_reducible refine gate_callee (f := 50) rfl ?_); refine goesL_ (some 67) rfl rfl Try.func50 (by kernel_rfl) rfl #[.int .i64 (t349.length : Int), .slice Ao18 t352.length co18] rfl (by (try simp only [List.map_toArray, List.map_cons, List.map_nil]); first | done | rfl | (simp only [List.length_drop, List.length_take]; rfl)) ?_; (with_reducible refine (impl_AllWalkEvery.calls kj2 (t349.length : Int) _ _ t352 t355 t356 _ ?side1 ?side2 A10.out).mono ?_); (case side1 => repeat (first | exact (Kd.R_reads' HO354.out).2.2 | (with_reducible refine Kd.C_alloc ?_ _) | (with_reducible refine Kd.C_drewN ?_ _) | (with_reducible refine Kd.C_drew ?_))); (case side2 => exact (Kd.R_reads' HO354.out).2.1); rintro e w19 ⟨rfl, hb⟩; refine ⟨_, rfl, ?_⟩; have n0_ := Aside0.mk (Kd.R_below (by (with_reducible repeat (first | apply Kd.R_alloc | apply Kd.R_drewN | apply Kd.R_drew)); exact HO351.out) hb); have n1_ := Aside0.mk (Kd.R_below (by (with_reducible repeat (first | apply Kd.R_alloc | apply Kd.R_drewN | apply Kd.R_drew)); exact HO354.out) hb); have n2_ := Aside0.mk (below_step (by repeat (first | (with_reducible first | exact HB.out | apply below_alloc | apply pw_below_drewN | apply below_drew1) | exact HB.out)) hb); clear HO351; clear HO354; clear HB; have HO351 := n0_; have HO354 := n1_; have HB := n2_; clear n0_ n1_ n2_; (try clear hb); (try clear hb2); (try clear hk); (try clear hi)) | ((with_reducible refine gate_callee (f := 51) rfl ?_); refine goesL_ (some 73) rfl rfl Try.func51 (by kernel_rfl) rfl #[.int .i64 (t349.length : Int), .slice Ao18 t352.length co18] rfl (by (try simp only [List.map_toArray, List.map_cons, List.map_nil]); first | done | rfl | (simp only [List.length_drop, List.length_take]; rfl)) ?_; (with_reducible refine (spec_AllWalkEvery.calls kj2 (t349.length : Int) _ _ t352 t357 t358 _ ?side1 ?side2 A11.out).mono ?_); (case side1 => repeat (first | exact (Kd.R_reads' HO354.out).2.2 | (with_reducible refine Kd.C_alloc ?_ _) | (with_reducible refine Kd.C_drewN ?_ _) | (with_reducible refine Kd.C_drew ?_))); (case side2 => exact (Kd.R_reads' HO354.out).2.1); rintro e w20 ⟨rfl, hb⟩; refine ⟨_, rfl, ?_⟩; have n0_ := Aside0.mk (Kd.R_below (by (with_reducible repeat (first | apply Kd.R_alloc | apply Kd.R_drewN | apply Kd.R_drew)); exact HO351.out) hb); have n1_ := Aside0.mk (Kd.R_below (by (with_reducible repeat (first | apply Kd.R_alloc | apply Kd.R_drewN | apply Kd.R_drew)); exact HO354.out) hb); have n2_ := Aside0.mk (below_step (by repeat (first | (with_reducible first | exact HB.out | apply below_alloc | apply pw_below_drewN | apply below_drew1) | exact HB.out)) hb); clear HO351; clear HO354; clear HB; have HO351 := n0_; have HO354 := n1_; have HB := n2_; clear n0_ n1_ n2_; (try clear hb); (try clear hb2); (try clear hk); (try clear hi)) | ((with_reducible refine gate_callee (f := 52) rfl ?_); refine goesL_ (some 79) rfl rfl Try.func52 (by kernel_rfl) rfl #[.int .i64 (t349.length : Int), .slice Ao18 t352.length co18] rfl (by (try simp only [List.map_toArray, List.map_cons, List.map_nil]); first | done | rfl | (simp only [List.length_drop, List.length_take]; rfl)) ?_; (with_reducible refine (impl_RepeatsBehind.calls kj2 (t349.length : Int) _ _ t352 t359 t360 _ ?side1 ?side2 A12.out).mono ?_); (case side1 => repeat (first | exact (Kd.R_reads' HO354.out).2.2 | (with_reducible refine Kd.C_alloc ?_ _) | (with_reducible refine Kd.C_drewN ?_ _) | (with_reducible refine Kd.C_drew ?_))); (case side2 => exact (Kd.R_reads' HO354.out).2.1); rintro e w21 ⟨rfl, hb⟩; refine ⟨_, rfl, ?_⟩; have n0_ := Aside0.mk (Kd.R_below (by (with_reducible repeat (first | apply Kd.R_alloc | apply Kd.R_drewN | apply Kd.R_drew)); exact HO351.out) hb); have n1_ := Aside0.mk (Kd.R_below (by (with_reducible repeat (first | apply Kd.R_alloc | apply Kd.R_drewN | apply Kd.R_drew)); exact HO354.out) hb); have n2_ := Aside0.mk (below_step (by repeat (first | (with_reducible first | exact HB.out | apply below_alloc | apply pw_below_drewN | apply below_drew1) | exact HB.out)) hb); clear HO351; clear HO354; clear HB; have HO351 := n0_; have HO354 := n1_; have HB := n2_; clear n0_ n1_ n2_; (try clear hb); (try clear hb2); (try clear hk); (try clear hi)) | ((with_reducible refine gate_callee (f := 53) rfl ?_); refine goesL_ (some 85) rfl rfl Try.func53 (by kernel_rfl) rfl #[.int .i64 (t349.length : Int), .slice Ao18 t352.length co18] rfl (by (try simp only [List.map_toArray, List.map_cons, List.map_nil]); first | done | rfl | (simp only [List.length_drop, List.length_take]; rfl)) ?_; (with_reducible refine (spec_RepeatsBehind.calls kj2 (t349.length : Int) _ _ t352 t361 t362 _ ?side1 ?side2 A13.out).mono ?_); (case side1 => repeat (first | exact (Kd.R_reads' HO354.out).2.2 | (with_reducible refine Kd.C_alloc ?_ _) | (with_reducible refine Kd.C_drewN ?_ _) | (with_reducible refine Kd.C_drew ?_))); (case side2 => exact (Kd.R_reads' HO354.out).2.1); rintro e w22 ⟨rfl, hb⟩; refine ⟨_, rfl, ?_⟩; have n0_ := Aside0.mk (Kd.R_below (by (with_reducible repeat (first | apply Kd.R_alloc | apply Kd.R_drewN | apply Kd.R_drew)); exact HO351.out) hb); have n1_ := Aside0.mk (Kd.R_below (by (with_reducible repeat (first | apply Kd.R_alloc | apply Kd.R_drewN | apply Kd.R_drew)); exact HO354.out) hb); have n2_ := Aside0.mk (below_step (by repeat (first | (with_reducible first | exact HB.out | apply below_alloc | apply pw_below_drewN | apply below_drew1) | exact HB.out)) hb); clear HO351; clear HO354; clear HB; have HO351 := n0_; have HO354 := n1_; have HB := n2_; clear n0_ n1_ n2_; (try clear hb); (try clear hb2); (try clear hk); (try clear hi)))
    (try simp only [Act.put, List.setIfInBounds_toArray, List.set_cons_zero, List.set_cons_succ])
    go_cut [129] (fun v129 wc => ∃ (kq : Nat) (x129_13 : Bool), v129 = .bool x129_13 ∧ Aside0 (laws_FnRepeats.j1 kq l0 l1 t349 (t349.length : Int) t352 t357 t361 x129_13 = some r) ∧ Aside0 (kq ≤ kj2) ∧ Aside0 (Kd.R (Kd.int .u8) 5 wc w.heap.size (fun _ => True) (.slice Ao16 t349.length co16) t349) ∧ Aside0 (Kd.R k53 53 wc w.heap.size (fun _ => True) (.slice Ao18 t352.length co18) t352) ∧ Aside0 (Below w.heap.size w wc))
    case first => as_aux_lemma =>
     have H := HC14.out; clear HC14; by_cases c23 : t356 = t358
     ·
      rw [if_pos c23] at H; have c23b0 : (t356 == t358) = true := beq_iff_eq.mpr c23; have c23b1 : (t356 != t358) = false := bne_eq_false_iff_eq.mpr c23; clear c23; (first | rw [c23b0] | (simp only [i64_w, i32_w]; rw [c23b0]) | skip)
      by_cases c24 : t356 = 0
      ·
       rw [if_pos c24] at H; have c24b0 : (t356 == 0) = true := beq_iff_eq.mpr c24; have c24b1 : (t356 != 0) = false := bne_eq_false_iff_eq.mpr c24; clear c24; by_cases c25 : t355 = t357
       ·
        rw [if_pos c25] at H; have c25b0 : (t355 == t357) = true := beq_iff_eq.mpr c25; have c25b1 : (t355 != t357) = false := bne_eq_false_iff_eq.mpr c25; clear c25; by_cases c26 : t357 < 1
        ·
         rw [if_pos c26] at H; have c26b0 : decide (t357 < 1) = true := decide_eq_true c26
         clear c26; exact absurd (H.trans (congrArg some HT.out)) (laws_FnRepeats.dead_j1 _ _ _ _ _ _ _ _)
        ·
         rw [if_neg c26] at H; have c26b0 : decide (t357 < 1) = false := decide_eq_false c26
         clear c26; by_cases c27 : t360 = t362
         ·
          rw [if_pos c27] at H; have c27b0 : (t360 == t362) = true := beq_iff_eq.mpr c27; have c27b1 : (t360 != t362) = false := bne_eq_false_iff_eq.mpr c27; clear c27; by_cases c28 : t360 = 0
          ·
           rw [if_pos c28] at H; have c28b0 : (t360 == 0) = true := beq_iff_eq.mpr c28; have c28b1 : (t360 != 0) = false := bne_eq_false_iff_eq.mpr c28; clear c28; by_cases c29 : t359 = t361
           ·
            rw [if_pos c29] at H; have c29b0 : (t359 == t361) = true := beq_iff_eq.mpr c29; have c29b1 : (t359 != t361) = false := bne_eq_false_iff_eq.mpr c29; clear c29; by_cases c30 : t357 = 0
            ·
             rw [if_pos c30] at H; exact absurd H (by simp)
            ·
             rw [if_neg c30] at H; have c30b0 : (t357 == 0) = false := beq_eq_false_iff_ne.mpr c30; have c30b1 : (t357 != 0) = true := bne_iff_ne.mpr c30; by_cases c31 : (Int.tmod t361 t357) = 0
             ·
              rw [if_pos c31] at H; have c31b0 : ((Int.tmod t361 t357) == 0) = true := beq_iff_eq.mpr c31; have c31b1 : ((Int.tmod t361 t357) != 0) = false := bne_eq_false_iff_eq.mpr c31; clear c31; have H' := Aside0.mk H; clear H; go_wp2
              go_meet
              case rel => exact ⟨_, (decide (t361 > (wrap64 (8 * t357)))), (by first | rfl | (simp; done) | (simp [*]; done)), H', ⟨by have := HJ2.out; first | omega | exact Nat.le_refl _⟩, ⟨by (with_reducible repeat (first | apply Kd.R_alloc | apply Kd.R_drewN | apply Kd.R_drew)); exact HO351.out⟩, ⟨by (with_reducible repeat (first | apply Kd.R_alloc | apply Kd.R_drewN | apply Kd.R_drew)); exact HO354.out⟩, ⟨by repeat (first | (with_reducible first | exact HB.out | apply below_alloc | apply pw_below_drewN | apply below_drew1) | exact HB.out)⟩⟩
             ·
              rw [if_neg c31] at H; have c31b0 : ((Int.tmod t361 t357) == 0) = false := beq_eq_false_iff_ne.mpr c31; have c31b1 : ((Int.tmod t361 t357) != 0) = true := bne_iff_ne.mpr c31; exact absurd (H.trans (congrArg some HT.out)) (laws_FnRepeats.dead_j1 _ _ _ _ _ _ _ _)
           ·
            rw [if_neg c29] at H; have c29b0 : (t359 == t361) = false := beq_eq_false_iff_ne.mpr c29; have c29b1 : (t359 != t361) = true := bne_iff_ne.mpr c29; exact absurd (H.trans (congrArg some HT.out)) (laws_FnRepeats.dead_j1 _ _ _ _ _ _ _ _)
          ·
           rw [if_neg c28] at H; have c28b0 : (t360 == 0) = false := beq_eq_false_iff_ne.mpr c28; have c28b1 : (t360 != 0) = true := bne_iff_ne.mpr c28; exact absurd (H.trans (congrArg some HT.out)) (laws_FnRepeats.dead_j1 _ _ _ _ _ _ _ _)
         ·
          rw [if_neg c27] at H; have c27b0 : (t360 == t362) = false := beq_eq_false_iff_ne.mpr c27; have c27b1 : (t360 != t362) = true := bne_iff_ne.mpr c27; exact absurd (H.trans (congrArg some HT.out)) (laws_FnRepeats.dead_j1 _ _ _ _ _ _ _ _)
       ·
        rw [if_neg c25] at H; have c25b0 : (t355 == t357) = false := beq_eq_false_iff_ne.mpr c25; have c25b1 : (t355 != t357) = true := bne_iff_ne.mpr c25; exact absurd (H.trans (congrArg some HT.out)) (laws_FnRepeats.dead_j1 _ _ _ _ _ _ _ _)
      ·
       rw [if_neg c24] at H; have c24b0 : (t356 == 0) = false := beq_eq_false_iff_ne.mpr c24; have c24b1 : (t356 != 0) = true := bne_iff_ne.mpr c24; exact absurd (H.trans (congrArg some HT.out)) (laws_FnRepeats.dead_j1 _ _ _ _ _ _ _ _)
     ·
      rw [if_neg c23] at H; have c23b0 : (t356 == t358) = false := beq_eq_false_iff_ne.mpr c23; have c23b1 : (t356 != t358) = true := bne_iff_ne.mpr c23; (first | rw [c23b0] | (simp only [i64_w, i32_w]; rw [c23b0]) | skip)
      exact absurd (H.trans (congrArg some HT.out)) (laws_FnRepeats.dead_j1 _ _ _ _ _ _ _ _)
    case rest => as_aux_lemma =>
     clear HC14; try clear c1
     try clear c2
     try clear p2
     try clear c3
     try clear c5
     try clear p6
     try clear c7
     try clear c23
     try clear c23b0
     try clear c23b1
     try clear c24
     try clear c24b0
     try clear c24b1
     try clear c25
     try clear c25b0
     try clear c25b1
     try clear c26
     try clear c26b0
     try clear c27
     try clear c27b0
     try clear c27b1
     try clear c28
     try clear c28b0
     try clear c28b1
     try clear c29
     try clear c29b0
     try clear c29b1
     try clear c30
     try clear c30b0
     try clear c30b1
     try clear c31
     try clear c31b0
     try clear c31b1
     try clear p2
     obtain ⟨kq, x129_13, rfl, HA, HJ13, HO_5, HO_7, HB⟩ := hcut
     cases kq with
     | zero => exact absurd HA.out (by simp [laws_FnRepeats.j1])
     | succ kj13 =>
      have H := HA.out; clear HA; simp only [laws_FnRepeats.j1] at H
      by_cases c32 : x129_13 = true
      ·
       subst c32; have H1 : (some false) = some r := by rw [if_pos rfl] at H; exact H
       clear H; have H := H1; clear H1; exact absurd (Option.some.inj (H.trans (congrArg some HT.out))) Bool.false_ne_true
      ·
       replace c32 := Bool.eq_false_iff.mpr c32; subst c32; have H1 : ((spec_P6Pick.f l0 40).bind fun t363 => ((impl_RowOn.f kj13 t349 t352 (wrap64 (5 + t363))).bind fun bt364 => ((impl_RowOn.f kj13 t349 t352 (wrap64 ((wrap64 (5 + t363)) + t361))).bind fun bt368 => (if bt364.2 = 0 then (if bt368.2 = 0 then (if (bt364.1.length : Int) = (t349.length : Int) then ((spec_SameRow.f kj13 bt364.1 bt368.1).bind fun t372 => (laws_FnRepeats.j2 kj13 l1 (t349.length : Int) t352 t357 (wrap64 (5 + t363)) (!t372))) else (laws_FnRepeats.j2 kj13 l1 (t349.length : Int) t352 t357 (wrap64 (5 + t363)) true)) else (laws_FnRepeats.j2 kj13 l1 (t349.length : Int) t352 t357 (wrap64 (5 + t363)) true)) else (laws_FnRepeats.j2 kj13 l1 (t349.length : Int) t352 t357 (wrap64 (5 + t363)) true))))) = some r := by rw [if_neg (show ¬ (false = true) by decide)] at H; exact H
       clear H; have H := H1; clear H1; replace H := Option.bind_eq_some_iff.mp H; obtain ⟨t363, A330, H⟩ := H; replace H : ((impl_RowOn.f kj13 t349 t352 (wrap64 (5 + t363))).bind fun bt364 => ((impl_RowOn.f kj13 t349 t352 (wrap64 ((wrap64 (5 + t363)) + t361))).bind fun bt368 => (if bt364.2 = 0 then (if bt368.2 = 0 then (if (bt364.1.length : Int) = (t349.length : Int) then ((spec_SameRow.f kj13 bt364.1 bt368.1).bind fun t372 => (laws_FnRepeats.j2 kj13 l1 (t349.length : Int) t352 t357 (wrap64 (5 + t363)) (!t372))) else (laws_FnRepeats.j2 kj13 l1 (t349.length : Int) t352 t357 (wrap64 (5 + t363)) true)) else (laws_FnRepeats.j2 kj13 l1 (t349.length : Int) t352 t357 (wrap64 (5 + t363)) true)) else (laws_FnRepeats.j2 kj13 l1 (t349.length : Int) t352 t357 (wrap64 (5 + t363)) true)))) = some r := H
       have A33 := Aside0.mk A330; clear A330; replace H := Option.bind_eq_some_iff.mp H; obtain ⟨⟨t364, t365⟩, A340, H⟩ := H; replace H : ((impl_RowOn.f kj13 t349 t352 (wrap64 ((wrap64 (5 + t363)) + t361))).bind fun bt368 => (if t365 = 0 then (if bt368.2 = 0 then (if (t364.length : Int) = (t349.length : Int) then ((spec_SameRow.f kj13 t364 bt368.1).bind fun t372 => (laws_FnRepeats.j2 kj13 l1 (t349.length : Int) t352 t357 (wrap64 (5 + t363)) (!t372))) else (laws_FnRepeats.j2 kj13 l1 (t349.length : Int) t352 t357 (wrap64 (5 + t363)) true)) else (laws_FnRepeats.j2 kj13 l1 (t349.length : Int) t352 t357 (wrap64 (5 + t363)) true)) else (laws_FnRepeats.j2 kj13 l1 (t349.length : Int) t352 t357 (wrap64 (5 + t363)) true))) = some r := H
       have A34 := Aside0.mk A340; clear A340; replace H := Option.bind_eq_some_iff.mp H; obtain ⟨⟨t368, t369⟩, A350, H⟩ := H; replace H : (if t365 = 0 then (if t369 = 0 then (if (t364.length : Int) = (t349.length : Int) then ((spec_SameRow.f kj13 t364 t368).bind fun t372 => (laws_FnRepeats.j2 kj13 l1 (t349.length : Int) t352 t357 (wrap64 (5 + t363)) (!t372))) else (laws_FnRepeats.j2 kj13 l1 (t349.length : Int) t352 t357 (wrap64 (5 + t363)) true)) else (laws_FnRepeats.j2 kj13 l1 (t349.length : Int) t352 t357 (wrap64 (5 + t363)) true)) else (laws_FnRepeats.j2 kj13 l1 (t349.length : Int) t352 t357 (wrap64 (5 + t363)) true)) = some r := H
       have A35 := Aside0.mk A350; clear A350; have HC36 := Aside0.mk H; clear H; go_upto_region 15 with (first | ((with_reducible refine gate_callee (f := 28) rfl ?_); refine goesL_ (some 131) rfl rfl Try.func28 (by kernel_rfl) rfl #[.slice A0 l0.length c0, .int .i64 40] rfl (by (try simp only [List.map_toArray, List.map_cons, List.map_nil]); first | done | rfl | (simp only [List.length_drop, List.length_take]; rfl)) ?_; (with_reducible refine (spec_P6Pick.calls _ _ l0 40 t363 _ ?side1 ?side2 A33.out).mono ?_); (case side1 => repeat (first | exact (Kd.C_below HR0.out HB.out) | (with_reducible refine Kd.C_alloc ?_ _) | (with_reducible refine Kd.C_drewN ?_ _) | (with_reducible refine Kd.C_drew ?_))); (case side2 => exact HC0.out); rintro e w37 ⟨rfl, hb⟩; refine ⟨_, rfl, ?_⟩; have n0_ := Aside0.mk (Kd.R_below (by (with_reducible repeat (first | apply Kd.R_alloc | apply Kd.R_drewN | apply Kd.R_drew)); exact HO_5.out) hb); have n1_ := Aside0.mk (Kd.R_below (by (with_reducible repeat (first | apply Kd.R_alloc | apply Kd.R_drewN | apply Kd.R_drew)); exact HO_7.out) hb); have n2_ := Aside0.mk (below_step (by repeat (first | (with_reducible first | exact HB.out | apply below_alloc | apply pw_below_drewN | apply below_drew1) | exact HB.out)) hb); clear HO_5; clear HO_7; clear HB; have HO_5 := n0_; have HO_7 := n1_; have HB := n2_; clear n0_ n1_ n2_; (try clear hb); (try clear hb2); (try clear hk); (try clear hi)) | ((with_reducible refine gate_callee (f := 43) rfl ?_); refine goesL_ (some 137) rfl rfl Try.func43 (by kernel_rfl) rfl #[.slice Ao16 t349.length co16, .slice Ao18 t352.length co18, .int .i64 (wrap64 (5 + t363))] rfl (by (try simp only [List.map_toArray, List.map_cons, List.map_nil]); first | done | rfl | (simp only [List.length_drop, List.length_take]; rfl)) ?_; (with_reducible refine (impl_RowOn.calls kj13 _ _ t349 _ _ t352 (wrap64 (5 + t363)) t364 t365 _ ?side1 ?side2 ?side3 ?side4 A34.out).mono ?_); (case side1 => repeat (first | exact (Kd.R_reads' HO_5.out).2.2 | (with_reducible refine Kd.C_alloc ?_ _) | (with_reducible refine Kd.C_drewN ?_ _) | (with_reducible refine Kd.C_drew ?_))); (case side2 => exact (Kd.R_reads' HO_5.out).2.1); (case side3 => repeat (first | exact (Kd.R_reads' HO_7.out).2.2 | (with_reducible refine Kd.C_alloc ?_ _) | (with_reducible refine Kd.C_drewN ?_ _) | (with_reducible refine Kd.C_drew ?_))); (case side4 => exact (Kd.R_reads' HO_7.out).2.1); rintro e w38 ⟨v366, rfl, ho0, hb⟩; refine ⟨_, rfl, ?_⟩; have n0_ := Aside0.mk (Kd.R_elder' (by (with_reducible repeat (first | apply Kd.R_alloc | apply Kd.R_drewN | apply Kd.R_drew)); exact HO_5.out) (Kd.R_base ho0) hb); have n1_ := Aside0.mk (Kd.R_below (by (with_reducible repeat (first | apply Kd.R_alloc | apply Kd.R_drewN | apply Kd.R_drew)); exact HO_7.out) hb); have n2_ := Aside0.mk (Kd.R_lower (Kd.R_new' ho0 (Kd.R_lt (by (with_reducible repeat (first | apply Kd.R_alloc | apply Kd.R_drewN | apply Kd.R_drew)); exact HO_5.out))) (below_size (by repeat (first | (with_reducible first | exact HB.out | apply below_alloc | apply pw_below_drewN | apply below_drew1) | exact HB.out)))); have n3_ := Aside0.mk (below_step (by repeat (first | (with_reducible first | exact HB.out | apply below_alloc | apply pw_below_drewN | apply below_drew1) | exact HB.out)) hb); clear HO_5; clear HO_7; clear HB; have HO_5 := n0_; have HO_7 := n1_; have HO367 := n2_; have HB := n3_; clear n0_ n1_ n2_ n3_; (try clear hb); (try clear hb2); (try clear hk); (try clear hi); (try clear ho0)) | ((with_reducible refine gate_callee (f := 43) rfl ?_); refine goesL_ (some 146) rfl rfl Try.func43 (by kernel_rfl) rfl #[.slice Ao16 t349.length co16, .slice Ao18 t352.length co18, .int .i64 (wrap64 ((wrap64 (5 + t363)) + t361))] rfl (by (try simp only [List.map_toArray, List.map_cons, List.map_nil]); first | done | rfl | (simp only [List.length_drop, List.length_take]; rfl)) ?_; (with_reducible refine (impl_RowOn.calls kj13 _ _ t349 _ _ t352 (wrap64 ((wrap64 (5 + t363)) + t361)) t368 t369 _ ?side1 ?side2 ?side3 ?side4 A35.out).mono ?_); (case side1 => repeat (first | exact (Kd.R_reads' HO_5.out).2.2 | (with_reducible refine Kd.C_alloc ?_ _) | (with_reducible refine Kd.C_drewN ?_ _) | (with_reducible refine Kd.C_drew ?_))); (case side2 => exact (Kd.R_reads' HO_5.out).2.1); (case side3 => repeat (first | exact (Kd.R_reads' HO_7.out).2.2 | (with_reducible refine Kd.C_alloc ?_ _) | (with_reducible refine Kd.C_drewN ?_ _) | (with_reducible refine Kd.C_drew ?_))); (case side4 => exact (Kd.R_reads' HO_7.out).2.1); rintro e w39 ⟨v370, rfl, ho0, hb⟩; refine ⟨_, rfl, ?_⟩; have n0_ := Aside0.mk (Kd.R_elder' (by (with_reducible repeat (first | apply Kd.R_alloc | apply Kd.R_drewN | apply Kd.R_drew)); exact HO_5.out) (Kd.R_base ho0) hb); have n1_ := Aside0.mk (Kd.R_below (by (with_reducible repeat (first | apply Kd.R_alloc | apply Kd.R_drewN | apply Kd.R_drew)); exact HO_7.out) hb); have n2_ := Aside0.mk (Kd.R_elder' (by (with_reducible repeat (first | apply Kd.R_alloc | apply Kd.R_drewN | apply Kd.R_drew)); exact HO367.out) (Kd.R_base ho0) hb); have n3_ := Aside0.mk (Kd.R_lower (Kd.R_new' (Kd.R_new' ho0 (Kd.R_lt (by (with_reducible repeat (first | apply Kd.R_alloc | apply Kd.R_drewN | apply Kd.R_drew)); exact HO_5.out))) (Kd.R_lt (by (with_reducible repeat (first | apply Kd.R_alloc | apply Kd.R_drewN | apply Kd.R_drew)); exact HO367.out))) (below_size (by repeat (first | (with_reducible first | exact HB.out | apply below_alloc | apply pw_below_drewN | apply below_drew1) | exact HB.out)))); have n4_ := Aside0.mk (below_step (by repeat (first | (with_reducible first | exact HB.out | apply below_alloc | apply pw_below_drewN | apply below_drew1) | exact HB.out)) hb); clear HO_5; clear HO_7; clear HO367; clear HB; have HO_5 := n0_; have HO_7 := n1_; have HO367 := n2_; have HO371 := n3_; have HB := n4_; clear n0_ n1_ n2_ n3_ n4_; (try clear hb); (try clear hb2); (try clear hk); (try clear hi); (try clear ho0)))
       (try simp only [Act.put, List.setIfInBounds_toArray, List.set_cons_zero, List.set_cons_succ])
       go_cut [167] (fun v167 wc => ∃ (kq : Nat) (x167_35 : Bool), v167 = .bool x167_35 ∧ Aside0 (laws_FnRepeats.j2 kq l1 (t349.length : Int) t352 t357 (wrap64 (5 + t363)) x167_35 = some r) ∧ Aside0 (kq ≤ kj13) ∧ Aside0 (Kd.R k53 53 wc w.heap.size (fun _ => True) (.slice Ao18 t352.length co18) t352) ∧ Aside0 (Below w.heap.size w wc))
       case first => as_aux_lemma =>
        have H := HC36.out; clear HC36; by_cases c40 : t365 = 0
        ·
         rw [if_pos c40] at H; have c40b0 : (t365 == 0) = true := beq_iff_eq.mpr c40; have c40b1 : (t365 != 0) = false := bne_eq_false_iff_eq.mpr c40; clear c40; (first | rw [c40b0] | (simp only [i64_w, i32_w]; rw [c40b0]) | skip)
         by_cases c41 : t369 = 0
         ·
          rw [if_pos c41] at H; have c41b0 : (t369 == 0) = true := beq_iff_eq.mpr c41; have c41b1 : (t369 != 0) = false := bne_eq_false_iff_eq.mpr c41; clear c41; by_cases c42 : (t364.length : Int) = (t349.length : Int)
          ·
           rw [if_pos c42] at H; have c42b0 : ((t364.length : Int) == (t349.length : Int)) = true := beq_iff_eq.mpr c42; have c42b1 : ((t364.length : Int) != (t349.length : Int)) = false := bne_eq_false_iff_eq.mpr c42; have c42b2 : (t364.length == t349.length) = true := by first | simpa using c42 | (simp at c42 ⊢; omega)
           clear c42; replace H := Option.bind_eq_some_iff.mp H; obtain ⟨t372, A430, H⟩ := H; replace H : (laws_FnRepeats.j2 kj13 l1 (t349.length : Int) t352 t357 (wrap64 (5 + t363)) (!t372)) = some r := H
           have A43 := Aside0.mk A430; clear A430; have H' := Aside0.mk H; clear H; obtain ⟨Ao44, co44, eo44⟩ := Kd.R_slice HO367.out
           subst eo44; obtain ⟨Ao45, co45, eo45⟩ := Kd.R_slice HO371.out
           subst eo45; go_wp2_with (first | (go_at_call 35; (with_reducible refine (spec_SameRow.calls kj13 _ _ t364 _ _ t368 t372 _ ?side1 ?side2 ?side3 ?side4 A43.out).mono ?_); (case side1 => repeat (first | exact (Kd.R_reads' HO367.out).2.2 | (with_reducible refine Kd.C_alloc ?_ _) | (with_reducible refine Kd.C_drewN ?_ _) | (with_reducible refine Kd.C_drew ?_))); (case side2 => exact (Kd.R_reads' HO367.out).2.1); (case side3 => repeat (first | exact (Kd.R_reads' HO371.out).2.2 | (with_reducible refine Kd.C_alloc ?_ _) | (with_reducible refine Kd.C_drewN ?_ _) | (with_reducible refine Kd.C_drew ?_))); (case side4 => exact (Kd.R_reads' HO371.out).2.1); rintro e w' ⟨rfl, ⟨nd, rfl⟩⟩))
           go_meet
           case rel => exact ⟨_, (!t372), (by first | rfl | (simp; done) | (simp [*]; done)), H', ⟨by have := HJ2.out; have := HJ13.out; first | omega | exact Nat.le_refl _⟩, ⟨by (with_reducible repeat (first | apply Kd.R_alloc | apply Kd.R_drewN | apply Kd.R_drew)); exact HO_7.out⟩, ⟨by repeat (first | (with_reducible first | exact HB.out | apply below_alloc | apply pw_below_drewN | apply below_drew1) | exact HB.out)⟩⟩
          ·
           rw [if_neg c42] at H; have c42b0 : ((t364.length : Int) == (t349.length : Int)) = false := beq_eq_false_iff_ne.mpr c42; have c42b1 : ((t364.length : Int) != (t349.length : Int)) = true := bne_iff_ne.mpr c42; have c42b2 : (t364.length == t349.length) = false := by first | simpa using c42 | (simp at c42 ⊢; omega)
           exact absurd (H.trans (congrArg some HT.out)) (laws_FnRepeats.dead_j2 _ _ _ _ _ _)
         ·
          rw [if_neg c41] at H; have c41b0 : (t369 == 0) = false := beq_eq_false_iff_ne.mpr c41; have c41b1 : (t369 != 0) = true := bne_iff_ne.mpr c41; exact absurd (H.trans (congrArg some HT.out)) (laws_FnRepeats.dead_j2 _ _ _ _ _ _)
        ·
         rw [if_neg c40] at H; have c40b0 : (t365 == 0) = false := beq_eq_false_iff_ne.mpr c40; have c40b1 : (t365 != 0) = true := bne_iff_ne.mpr c40; (first | rw [c40b0] | (simp only [i64_w, i32_w]; rw [c40b0]) | skip)
         exact absurd (H.trans (congrArg some HT.out)) (laws_FnRepeats.dead_j2 _ _ _ _ _ _)
       case rest => as_aux_lemma =>
        clear HC36; try clear c1
        try clear c2
        try clear p2
        try clear c3
        try clear c4
        try clear c5
        try clear p6
        try clear c7
        try clear c23
        try clear c23b0
        try clear c23b1
        try clear c24
        try clear c24b0
        try clear c24b1
        try clear c25
        try clear c25b0
        try clear c25b1
        try clear c26
        try clear c26b0
        try clear c27
        try clear c27b0
        try clear c27b1
        try clear c28
        try clear c28b0
        try clear c28b1
        try clear c29
        try clear c29b0
        try clear c29b1
        try clear c30
        try clear c30b0
        try clear c30b1
        try clear c31
        try clear c31b0
        try clear c31b1
        try clear c32
        try clear c40
        try clear c40b0
        try clear c40b1
        try clear c41
        try clear c41b0
        try clear c41b1
        try clear c42
        try clear c42b0
        try clear c42b1
        try clear c42b2
        try clear c43
        try clear p2
        try clear p6
        obtain ⟨kq, x167_35, rfl, HA, HJ35, HO_7, HB⟩ := hcut
        cases kq with
        | zero => exact absurd HA.out (by simp [laws_FnRepeats.j2])
        | succ kj35 =>
         have H := HA.out; clear HA; simp only [laws_FnRepeats.j2] at H
         by_cases c47 : x167_35 = true
         ·
          subst c47; have H1 : (some false) = some r := by rw [if_pos rfl] at H; exact H
          clear H; have H := H1; clear H1; exact absurd (Option.some.inj (H.trans (congrArg some HT.out))) Bool.false_ne_true
         ·
          replace c47 := Bool.eq_false_iff.mpr c47; subst c47; have H1 : (laws_FnRepeats.l0 kj35 l1 (t349.length : Int) t352 t357 (wrap64 (5 + t363)) 0) = some r := by rw [if_neg (show ¬ (false = true) by decide)] at H; exact H
          clear H; have H := H1; clear H1; have H' := Aside0.mk H; clear H; go_wp2
          go_loopg [21] kj35 (fun kq v21 w' => ∃ (x21_4 : Int), v21 = .int .i64 x21_4 ∧ Aside0 (laws_FnRepeats.l0 kq l1 (t349.length : Int) t352 t357 (wrap64 (5 + t363)) x21_4 = some r) ∧ Aside0 (kq ≤ kj35) ∧ Aside0 (Kd.R k53 53 w' w.heap.size (fun _ => True) (.slice Ao18 t352.length co18) t352) ∧ Aside0 (Below w.heap.size w w'))
          case atStart => exact ⟨(0), (by first | rfl | (simp; done) | (simp [*]; done)), H', ⟨Nat.le_refl _⟩, ⟨by (with_reducible repeat (first | apply Kd.R_alloc | apply Kd.R_drewN | apply Kd.R_drew)); exact HO_7.out⟩, ⟨by repeat (first | (with_reducible first | exact HB.out | apply below_alloc | apply pw_below_drewN | apply below_drew1) | exact HB.out)⟩⟩
          case round => as_aux_lemma =>
           clear H'; try clear c1
           try clear c2
           try clear p2
           try clear c3
           try clear c4
           try clear c5
           try clear p6
           try clear c7
           try clear c23
           try clear c23b0
           try clear c23b1
           try clear c24
           try clear c24b0
           try clear c24b1
           try clear c25
           try clear c25b0
           try clear c25b1
           try clear c26
           try clear c26b0
           try clear c27
           try clear c27b0
           try clear c27b1
           try clear c28
           try clear c28b0
           try clear c28b1
           try clear c29
           try clear c29b0
           try clear c29b1
           try clear c30
           try clear c30b0
           try clear c30b1
           try clear c31
           try clear c31b0
           try clear c31b1
           try clear c32
           try clear c40
           try clear c40b0
           try clear c40b1
           try clear c41
           try clear c41b0
           try clear c41b1
           try clear c42
           try clear c42b0
           try clear c42b1
           try clear c42b2
           try clear c43
           try clear c47
           try clear p2
           try clear p6
           obtain ⟨x21_4, rfl, HA, HK4, HO_7, HB⟩ := hrel
           cases gk with
           | zero => exact absurd HA.out (by simp [laws_FnRepeats.l0])
           | succ k4 =>
            have H := HA.out; clear HA; simp only [laws_FnRepeats.l0] at H
            by_cases c48 : x21_4 < (t352.length : Int)
            ·
             rw [if_pos c48] at H; have c48b0 : decide (x21_4 < (t352.length : Int)) = true := decide_eq_true c48
             clear c48; have H' := Aside0.mk H; clear H; go_wp2
             go_loopg [22, 23] k4 (fun kq v22 v23 w' => ∃ (x22_5 : Int) (x23_5 : Int), v22 = .int .i64 x22_5 ∧ v23 = .int .i64 x23_5 ∧ Aside0 (laws_FnRepeats.l1 kq l1 (t349.length : Int) t352 t357 (wrap64 (5 + t363)) x21_4 x22_5 x23_5 = some r) ∧ Aside0 (kq ≤ k4) ∧ Aside0 (Kd.R k53 53 w' w.heap.size (fun _ => True) (.slice Ao18 t352.length co18) t352) ∧ Aside0 (Below w.heap.size w w'))
             case atStart => exact ⟨(0), (0), (by first | rfl | (simp; done) | (simp [*]; done)), (by first | rfl | (simp; done) | (simp [*]; done)), H', ⟨Nat.le_refl _⟩, ⟨by (with_reducible repeat (first | apply Kd.R_alloc | apply Kd.R_drewN | apply Kd.R_drew)); exact HO_7.out⟩, ⟨by repeat (first | (with_reducible first | exact HB.out | apply below_alloc | apply pw_below_drewN | apply below_drew1) | exact HB.out)⟩⟩
             case round => as_aux_lemma =>
              clear H'; try clear c1
              try clear c2
              try clear p2
              try clear c3
              try clear c4
              try clear c5
              try clear p6
              try clear c7
              try clear c23
              try clear c23b0
              try clear c23b1
              try clear c24
              try clear c24b0
              try clear c24b1
              try clear c25
              try clear c25b0
              try clear c25b1
              try clear c26
              try clear c26b0
              try clear c27
              try clear c27b0
              try clear c27b1
              try clear c28
              try clear c28b0
              try clear c28b1
              try clear c29
              try clear c29b0
              try clear c29b1
              try clear c30
              try clear c30b0
              try clear c30b1
              try clear c31
              try clear c31b0
              try clear c31b1
              try clear c32
              try clear c40
              try clear c40b0
              try clear c40b1
              try clear c41
              try clear c41b0
              try clear c41b1
              try clear c42
              try clear c42b0
              try clear c42b1
              try clear c42b2
              try clear c43
              try clear c47
              try clear c48
              try clear c48b0
              try clear p2
              try clear p6
              obtain ⟨x22_5, x23_5, rfl, rfl, HA, HK5, HO_7, HB⟩ := hrel
              cases gk with
              | zero => exact absurd HA.out (by simp [laws_FnRepeats.l1])
              | succ k5 =>
               have H := HA.out; clear HA; simp only [laws_FnRepeats.l1] at H
               by_cases c49 : x23_5 ≤ (wrap64 (5 + t363))
               ·
                rw [if_pos c49] at H; have c49b0 : decide (x23_5 ≤ (wrap64 (5 + t363))) = true := decide_eq_true c49
                clear c49; by_cases c50 : 0 ≤ x21_4
                ·
                 rw [if_pos c50] at H; have c50b0 : decide (0 ≤ x21_4) = true := decide_eq_true c50
                 clear c50; by_cases c51 : x21_4 < (t352.length : Int)
                 ·
                  rw [if_pos c51] at H; have c51b0 : decide (x21_4 < (t352.length : Int)) = true := decide_eq_true c51
                  clear c51; replace H := Option.bind_eq_some_iff.mp H; obtain ⟨⟨t374, t375⟩, A520, H⟩ := H; replace H : ((impl_WalksOn.f (t349.length : Int) ((rd_T53 t352 x21_4).f0) ((rd_T53 t352 x21_4).f1) ((rd_T53 t352 x21_4).f2) ((rd_T53 t352 x21_4).f3) ((rd_T53 t352 x21_4).f4) ((rd_T53 t352 x21_4).f5) (wrap64 (x23_5 + t357))).bind fun bt377 => ((impl_WalksUntil.f (t349.length : Int) ((rd_T53 t352 x21_4).f0) ((rd_T53 t352 x21_4).f1) ((rd_T53 t352 x21_4).f2) ((rd_T53 t352 x21_4).f3) ((rd_T53 t352 x21_4).f4) ((rd_T53 t352 x21_4).f5) x23_5).bind fun bt380 => (if t375 = 0 then (if bt377.2 = 0 then (if bt380.2 = 0 then (if x23_5 ≥ (wrap64 ((rd_T53 t352 x21_4).f0)) then (laws_FnRepeats.j5 k5 l1 (t349.length : Int) t352 t357 (wrap64 (5 + t363)) x21_4 x22_5 x23_5 t374 bt380.1 (t374 != bt377.1)) else (laws_FnRepeats.j5 k5 l1 (t349.length : Int) t352 t357 (wrap64 (5 + t363)) x21_4 x22_5 x23_5 t374 bt380.1 false)) else (laws_FnRepeats.j5 k5 l1 (t349.length : Int) t352 t357 (wrap64 (5 + t363)) x21_4 x22_5 x23_5 t374 bt380.1 true)) else (laws_FnRepeats.j5 k5 l1 (t349.length : Int) t352 t357 (wrap64 (5 + t363)) x21_4 x22_5 x23_5 t374 bt380.1 true)) else (laws_FnRepeats.j5 k5 l1 (t349.length : Int) t352 t357 (wrap64 (5 + t363)) x21_4 x22_5 x23_5 t374 bt380.1 true)))) = some r := H
                  have A52 := Aside0.mk A520; clear A520; replace H := Option.bind_eq_some_iff.mp H; obtain ⟨⟨t377, t378⟩, A530, H⟩ := H; replace H : ((impl_WalksUntil.f (t349.length : Int) ((rd_T53 t352 x21_4).f0) ((rd_T53 t352 x21_4).f1) ((rd_T53 t352 x21_4).f2) ((rd_T53 t352 x21_4).f3) ((rd_T53 t352 x21_4).f4) ((rd_T53 t352 x21_4).f5) x23_5).bind fun bt380 => (if t375 = 0 then (if t378 = 0 then (if bt380.2 = 0 then (if x23_5 ≥ (wrap64 ((rd_T53 t352 x21_4).f0)) then (laws_FnRepeats.j5 k5 l1 (t349.length : Int) t352 t357 (wrap64 (5 + t363)) x21_4 x22_5 x23_5 t374 bt380.1 (t374 != t377)) else (laws_FnRepeats.j5 k5 l1 (t349.length : Int) t352 t357 (wrap64 (5 + t363)) x21_4 x22_5 x23_5 t374 bt380.1 false)) else (laws_FnRepeats.j5 k5 l1 (t349.length : Int) t352 t357 (wrap64 (5 + t363)) x21_4 x22_5 x23_5 t374 bt380.1 true)) else (laws_FnRepeats.j5 k5 l1 (t349.length : Int) t352 t357 (wrap64 (5 + t363)) x21_4 x22_5 x23_5 t374 bt380.1 true)) else (laws_FnRepeats.j5 k5 l1 (t349.length : Int) t352 t357 (wrap64 (5 + t363)) x21_4 x22_5 x23_5 t374 bt380.1 true))) = some r := H
                  have A53 := Aside0.mk A530; clear A530; replace H := Option.bind_eq_some_iff.mp H; obtain ⟨⟨t380, t381⟩, A540, H⟩ := H; replace H : (if t375 = 0 then (if t378 = 0 then (if t381 = 0 then (if x23_5 ≥ (wrap64 ((rd_T53 t352 x21_4).f0)) then (laws_FnRepeats.j5 k5 l1 (t349.length : Int) t352 t357 (wrap64 (5 + t363)) x21_4 x22_5 x23_5 t374 t380 (t374 != t377)) else (laws_FnRepeats.j5 k5 l1 (t349.length : Int) t352 t357 (wrap64 (5 + t363)) x21_4 x22_5 x23_5 t374 t380 false)) else (laws_FnRepeats.j5 k5 l1 (t349.length : Int) t352 t357 (wrap64 (5 + t363)) x21_4 x22_5 x23_5 t374 t380 true)) else (laws_FnRepeats.j5 k5 l1 (t349.length : Int) t352 t357 (wrap64 (5 + t363)) x21_4 x22_5 x23_5 t374 t380 true)) else (laws_FnRepeats.j5 k5 l1 (t349.length : Int) t352 t357 (wrap64 (5 + t363)) x21_4 x22_5 x23_5 t374 t380 true)) = some r := H
                  have A54 := Aside0.mk A540; clear A540; have HC55 := Aside0.mk H; clear H; have p373 : 0 ≤ (x21_4 : Int) := of_decide_eq_true (by first | (with_reducible assumption) | assumption)
                  have q373 : x21_4 < (t352.length : Int) := of_decide_eq_true (by first | (with_reducible assumption) | assumption)
                  obtain ⟨ad373, e373, hx373_0, hx373_1, hx373_2, hx373_3, hx373_4, hx373_5⟩ := at_T53 (Kd.R_reads' HO_7.out).2.2 x21_4 p373 q373
                  cases e373
                  replace p373 := eq_true p373
                  replace q373 := eq_true q373
                  go_upto_region 27 with (first | ((with_reducible refine gate_callee (f := 33) rfl ?_); refine goesL_ (some 186) rfl rfl Try.func33 (by kernel_rfl) rfl #[.int .i64 (t349.length : Int), .agg #[.int .i16 ((rd_T53 t352 x21_4).f0), .int .i16 ((rd_T53 t352 x21_4).f1), .int .i16 ((rd_T53 t352 x21_4).f2), .int .i16 ((rd_T53 t352 x21_4).f3), .int .i16 ((rd_T53 t352 x21_4).f4), .int .i8 ((rd_T53 t352 x21_4).f5)], .int .i64 x23_5] rfl (by (try simp only [List.map_toArray, List.map_cons, List.map_nil]); first | done | rfl | (simp only [List.length_drop, List.length_take]; rfl)) ?_; (with_reducible refine (impl_WalksOn.calls (t349.length : Int) ((rd_T53 t352 x21_4).f0) ((rd_T53 t352 x21_4).f1) ((rd_T53 t352 x21_4).f2) ((rd_T53 t352 x21_4).f3) ((rd_T53 t352 x21_4).f4) ((rd_T53 t352 x21_4).f5) x23_5 t374 t375 _ A52.out).mono ?_); rintro e w56 ⟨rfl, hb⟩; refine ⟨_, rfl, ?_⟩; have n0_ := Aside0.mk (Kd.R_below (by (with_reducible repeat (first | apply Kd.R_alloc | apply Kd.R_drewN | apply Kd.R_drew)); exact HO_7.out) hb); have n1_ := Aside0.mk (below_step (by repeat (first | (with_reducible first | exact HB.out | apply below_alloc | apply pw_below_drewN | apply below_drew1) | exact HB.out)) hb); clear HO_7; clear HB; have HO_7 := n0_; have HB := n1_; clear n0_ n1_; (try clear hb); (try clear hb2); (try clear hk); (try clear hi); have p376 : 0 ≤ (x21_4 : Int) := of_decide_eq_true (by first | (with_reducible assumption) | assumption); have q376 : x21_4 < (t352.length : Int) := of_decide_eq_true (by first | (with_reducible assumption) | assumption); obtain ⟨ad376, e376, hx376_0, hx376_1, hx376_2, hx376_3, hx376_4, hx376_5⟩ := at_T53 (Kd.R_reads' HO_7.out).2.2 x21_4 p376 q376; obtain rfl : ad373 = ad376 := (by injection e376); replace p376 := eq_true p376; replace q376 := eq_true q376) | ((with_reducible refine gate_callee (f := 33) rfl ?_); refine goesL_ (some 198) rfl rfl Try.func33 (by kernel_rfl) rfl #[.int .i64 (t349.length : Int), .agg #[.int .i16 ((rd_T53 t352 x21_4).f0), .int .i16 ((rd_T53 t352 x21_4).f1), .int .i16 ((rd_T53 t352 x21_4).f2), .int .i16 ((rd_T53 t352 x21_4).f3), .int .i16 ((rd_T53 t352 x21_4).f4), .int .i8 ((rd_T53 t352 x21_4).f5)], .int .i64 (wrap64 (x23_5 + t357))] rfl (by (try simp only [List.map_toArray, List.map_cons, List.map_nil]); first | done | rfl | (simp only [List.length_drop, List.length_take]; rfl)) ?_; (with_reducible refine (impl_WalksOn.calls (t349.length : Int) ((rd_T53 t352 x21_4).f0) ((rd_T53 t352 x21_4).f1) ((rd_T53 t352 x21_4).f2) ((rd_T53 t352 x21_4).f3) ((rd_T53 t352 x21_4).f4) ((rd_T53 t352 x21_4).f5) (wrap64 (x23_5 + t357)) t377 t378 _ A53.out).mono ?_); rintro e w57 ⟨rfl, hb⟩; refine ⟨_, rfl, ?_⟩; have n0_ := Aside0.mk (Kd.R_below (by (with_reducible repeat (first | apply Kd.R_alloc | apply Kd.R_drewN | apply Kd.R_drew)); exact HO_7.out) hb); have n1_ := Aside0.mk (below_step (by repeat (first | (with_reducible first | exact HB.out | apply below_alloc | apply pw_below_drewN | apply below_drew1) | exact HB.out)) hb); clear HO_7; clear HB; have HO_7 := n0_; have HB := n1_; clear n0_ n1_; (try clear hb); (try clear hb2); (try clear hk); (try clear hi); have p379 : 0 ≤ (x21_4 : Int) := of_decide_eq_true (by first | (with_reducible assumption) | assumption); have q379 : x21_4 < (t352.length : Int) := of_decide_eq_true (by first | (with_reducible assumption) | assumption); obtain ⟨ad379, e379, hx379_0, hx379_1, hx379_2, hx379_3, hx379_4, hx379_5⟩ := at_T53 (Kd.R_reads' HO_7.out).2.2 x21_4 p379 q379; obtain rfl : ad373 = ad379 := (by injection e379); replace p379 := eq_true p379; replace q379 := eq_true q379) | ((with_reducible refine gate_callee (f := 54) rfl ?_); refine goesL_ (some 208) rfl rfl Try.func54 (by kernel_rfl) rfl #[.int .i64 (t349.length : Int), .agg #[.int .i16 ((rd_T53 t352 x21_4).f0), .int .i16 ((rd_T53 t352 x21_4).f1), .int .i16 ((rd_T53 t352 x21_4).f2), .int .i16 ((rd_T53 t352 x21_4).f3), .int .i16 ((rd_T53 t352 x21_4).f4), .int .i8 ((rd_T53 t352 x21_4).f5)], .int .i64 x23_5] rfl (by (try simp only [List.map_toArray, List.map_cons, List.map_nil]); first | done | rfl | (simp only [List.length_drop, List.length_take]; rfl)) ?_; (with_reducible refine (impl_WalksUntil.calls (t349.length : Int) ((rd_T53 t352 x21_4).f0) ((rd_T53 t352 x21_4).f1) ((rd_T53 t352 x21_4).f2) ((rd_T53 t352 x21_4).f3) ((rd_T53 t352 x21_4).f4) ((rd_T53 t352 x21_4).f5) x23_5 t380 t381 _ A54.out).mono ?_); rintro e w58 ⟨rfl, hb⟩; refine ⟨_, rfl, ?_⟩; have n0_ := Aside0.mk (Kd.R_below (by (with_reducible repeat (first | apply Kd.R_alloc | apply Kd.R_drewN | apply Kd.R_drew)); exact HO_7.out) hb); have n1_ := Aside0.mk (below_step (by repeat (first | (with_reducible first | exact HB.out | apply below_alloc | apply pw_below_drewN | apply below_drew1) | exact HB.out)) hb); clear HO_7; clear HB; have HO_7 := n0_; have HB := n1_; clear n0_ n1_; (try clear hb); (try clear hb2); (try clear hk); (try clear hi)))
                  (try simp only [Act.put, List.setIfInBounds_toArray, List.set_cons_zero, List.set_cons_succ])
                  go_cut [235] (fun v235 wc => ∃ (kq : Nat) (x235_54 : Bool), v235 = .bool x235_54 ∧ Aside0 (laws_FnRepeats.j5 kq l1 (t349.length : Int) t352 t357 (wrap64 (5 + t363)) x21_4 x22_5 x23_5 t374 t380 x235_54 = some r) ∧ Aside0 (kq ≤ k5) ∧ Aside0 (Kd.R k53 53 wc w.heap.size (fun _ => True) (.slice (some ad373) t352.length co18) t352) ∧ Aside0 (Below w.heap.size w wc))
                  case first => as_aux_lemma =>
                   have H := HC55.out; clear HC55; by_cases c59 : t375 = 0
                   ·
                    rw [if_pos c59] at H; have c59b0 : (t375 == 0) = true := beq_iff_eq.mpr c59; have c59b1 : (t375 != 0) = false := bne_eq_false_iff_eq.mpr c59; clear c59; (first | rw [c59b0] | (simp only [i64_w, i32_w]; rw [c59b0]) | skip)
                    by_cases c60 : t378 = 0
                    ·
                     rw [if_pos c60] at H; have c60b0 : (t378 == 0) = true := beq_iff_eq.mpr c60; have c60b1 : (t378 != 0) = false := bne_eq_false_iff_eq.mpr c60; clear c60; by_cases c61 : t381 = 0
                     ·
                      rw [if_pos c61] at H; have c61b0 : (t381 == 0) = true := beq_iff_eq.mpr c61; have c61b1 : (t381 != 0) = false := bne_eq_false_iff_eq.mpr c61; clear c61; by_cases c62 : x23_5 ≥ (wrap64 ((rd_T53 t352 x21_4).f0))
                      ·
                       rw [if_pos c62] at H; have c62b0 : decide ((wrap64 ((rd_T53 t352 x21_4).f0)) ≤ x23_5) = true := decide_eq_true c62
                       clear c62; have H' := Aside0.mk H; clear H; have p382 : 0 ≤ (x21_4 : Int) := of_decide_eq_true (by first | (with_reducible assumption) | assumption)
                       have q382 : x21_4 < (t352.length : Int) := of_decide_eq_true (by first | (with_reducible assumption) | assumption)
                       obtain ⟨ad382, e382, hx382_0, hx382_1, hx382_2, hx382_3, hx382_4, hx382_5⟩ := at_T53 (Kd.R_reads' HO_7.out).2.2 x21_4 p382 q382
                       obtain rfl : ad373 = ad382 := (by injection e382)
                       replace p382 := eq_true p382
                       replace q382 := eq_true q382
                       go_wp2
                       go_meet
                       case rel => exact ⟨_, ((t374 != t377)), (by first | rfl | (simp; done) | (simp [*]; done)), H', ⟨by have := HJ2.out; have := HJ13.out; have := HJ35.out; have := HK4.out; have := HK5.out; first | omega | exact Nat.le_refl _⟩, ⟨by (with_reducible repeat (first | apply Kd.R_alloc | apply Kd.R_drewN | apply Kd.R_drew)); exact HO_7.out⟩, ⟨by repeat (first | (with_reducible first | exact HB.out | apply below_alloc | apply pw_below_drewN | apply below_drew1) | exact HB.out)⟩⟩
                      ·
                       rw [if_neg c62] at H; have c62b0 : decide ((wrap64 ((rd_T53 t352 x21_4).f0)) ≤ x23_5) = false := decide_eq_false c62
                       clear c62; have H' := Aside0.mk H; clear H; have p382 : 0 ≤ (x21_4 : Int) := of_decide_eq_true (by first | (with_reducible assumption) | assumption)
                       have q382 : x21_4 < (t352.length : Int) := of_decide_eq_true (by first | (with_reducible assumption) | assumption)
                       obtain ⟨ad382, e382, hx382_0, hx382_1, hx382_2, hx382_3, hx382_4, hx382_5⟩ := at_T53 (Kd.R_reads' HO_7.out).2.2 x21_4 p382 q382
                       obtain rfl : ad373 = ad382 := (by injection e382)
                       replace p382 := eq_true p382
                       replace q382 := eq_true q382
                       go_wp2
                       go_meet
                       case rel => exact ⟨_, (false), (by first | rfl | (simp; done) | (simp [*]; done)), H', ⟨by have := HJ2.out; have := HJ13.out; have := HJ35.out; have := HK4.out; have := HK5.out; first | omega | exact Nat.le_refl _⟩, ⟨by (with_reducible repeat (first | apply Kd.R_alloc | apply Kd.R_drewN | apply Kd.R_drew)); exact HO_7.out⟩, ⟨by repeat (first | (with_reducible first | exact HB.out | apply below_alloc | apply pw_below_drewN | apply below_drew1) | exact HB.out)⟩⟩
                     ·
                      rw [if_neg c61] at H; have c61b0 : (t381 == 0) = false := beq_eq_false_iff_ne.mpr c61; have c61b1 : (t381 != 0) = true := bne_iff_ne.mpr c61; exact absurd (H.trans (congrArg some HT.out)) (laws_FnRepeats.dead_j5 _ _ _ _ _ _ _ _ _ _ _)
                    ·
                     rw [if_neg c60] at H; have c60b0 : (t378 == 0) = false := beq_eq_false_iff_ne.mpr c60; have c60b1 : (t378 != 0) = true := bne_iff_ne.mpr c60; exact absurd (H.trans (congrArg some HT.out)) (laws_FnRepeats.dead_j5 _ _ _ _ _ _ _ _ _ _ _)
                   ·
                    rw [if_neg c59] at H; have c59b0 : (t375 == 0) = false := beq_eq_false_iff_ne.mpr c59; have c59b1 : (t375 != 0) = true := bne_iff_ne.mpr c59; (first | rw [c59b0] | (simp only [i64_w, i32_w]; rw [c59b0]) | skip)
                    exact absurd (H.trans (congrArg some HT.out)) (laws_FnRepeats.dead_j5 _ _ _ _ _ _ _ _ _ _ _)
                  case rest => as_aux_lemma =>
                   clear HC55; try clear c1
                   try clear c2
                   try clear p2
                   try clear c3
                   try clear p3
                   try clear q3
                   try clear hx3
                   try clear c4
                   try clear c5
                   try clear c6
                   try clear p6
                   try clear c7
                   try clear c23
                   try clear c23b0
                   try clear c23b1
                   try clear c24
                   try clear c24b0
                   try clear c24b1
                   try clear c25
                   try clear c25b0
                   try clear c25b1
                   try clear c26
                   try clear c26b0
                   try clear c27
                   try clear c27b0
                   try clear c27b1
                   try clear c28
                   try clear c28b0
                   try clear c28b1
                   try clear c29
                   try clear c29b0
                   try clear c29b1
                   try clear c30
                   try clear c30b0
                   try clear c30b1
                   try clear c31
                   try clear c31b0
                   try clear c31b1
                   try clear c32
                   try clear c33
                   try clear p37
                   try clear q37
                   try clear hx37
                   try clear p38
                   try clear q38
                   try clear hx38
                   try clear c40
                   try clear c40b0
                   try clear c40b1
                   try clear c41
                   try clear c41b0
                   try clear c41b1
                   try clear c42
                   try clear c42b0
                   try clear c42b1
                   try clear c42b2
                   try clear c43
                   try clear c47
                   try clear c48
                   try clear c48b0
                   try clear c49
                   try clear c49b0
                   try clear c50
                   try clear c50b0
                   try clear c51
                   try clear c51b0
                   try clear c52
                   try clear c53
                   try clear c54
                   try clear c59
                   try clear c59b0
                   try clear c59b1
                   try clear c60
                   try clear c60b0
                   try clear c60b1
                   try clear c61
                   try clear c61b0
                   try clear c61b1
                   try clear c62
                   try clear c62b0
                   try clear hx373_0
                   try clear hx373_1
                   try clear hx373_2
                   try clear hx373_3
                   try clear hx373_4
                   try clear hx373_5
                   try clear hx376_0
                   try clear hx376_1
                   try clear hx376_2
                   try clear hx376_3
                   try clear hx376_4
                   try clear hx376_5
                   try clear hx379_0
                   try clear hx379_1
                   try clear hx379_2
                   try clear hx379_3
                   try clear hx379_4
                   try clear hx379_5
                   try clear hx382_0
                   try clear hx382_1
                   try clear hx382_2
                   try clear hx382_3
                   try clear hx382_4
                   try clear hx382_5
                   try clear p2
                   try clear p373
                   try clear p376
                   try clear p379
                   try clear p382
                   try clear p6
                   try clear q373
                   try clear q376
                   try clear q379
                   try clear q382
                   obtain ⟨kq, x235_54, rfl, HA, HJ54, HO_7, HB⟩ := hcut
                   cases kq with
                   | zero => exact absurd HA.out (by simp [laws_FnRepeats.j5])
                   | succ kj54 =>
                    have H := HA.out; clear HA; simp only [laws_FnRepeats.j5] at H
                    by_cases c63 : x235_54 = true
                    ·
                     subst c63; have H1 : (some false) = some r := by rw [if_pos rfl] at H; exact H
                     clear H; have H := H1; clear H1; exact absurd (Option.some.inj (H.trans (congrArg some HT.out))) Bool.false_ne_true
                    ·
                     replace c63 := Bool.eq_false_iff.mpr c63; subst c63; have H1 : (if t374 = true then (if t380 = (wrap64 (x22_5 + 1)) then (laws_FnRepeats.l1 kj54 l1 (t349.length : Int) t352 t357 (wrap64 (5 + t363)) x21_4 (wrap64 (x22_5 + 1)) (wrap64 (x23_5 + 1))) else (some false)) else (if t380 = x22_5 then (laws_FnRepeats.l1 kj54 l1 (t349.length : Int) t352 t357 (wrap64 (5 + t363)) x21_4 x22_5 (wrap64 (x23_5 + 1))) else (some false))) = some r := by rw [if_neg (show ¬ (false = true) by decide)] at H; exact H
                     clear H; have H := H1; clear H1; by_cases c64 : t374 = true
                     ·
                      subst c64; have H1 : (if t380 = (wrap64 (x22_5 + 1)) then (laws_FnRepeats.l1 kj54 l1 (t349.length : Int) t352 t357 (wrap64 (5 + t363)) x21_4 (wrap64 (x22_5 + 1)) (wrap64 (x23_5 + 1))) else (some false)) = some r := by rw [if_pos rfl] at H; exact H
                      clear H; have H := H1; clear H1; by_cases c65 : t380 = (wrap64 (x22_5 + 1))
                      ·
                       rw [if_pos c65] at H; have c65b0 : (t380 == (wrap64 (x22_5 + 1))) = true := beq_iff_eq.mpr c65; have c65b1 : (t380 != (wrap64 (x22_5 + 1))) = false := bne_eq_false_iff_eq.mpr c65; clear c65; have H' := Aside0.mk H; clear H; go_wp2
                       go_roundg kj54
                       case measure => have := HJ2.out; have := HJ13.out; have := HJ35.out; have := HK4.out; have := HK5.out; have := HJ54.out; omega
                       case rel => exact ⟨(wrap64 (x22_5 + 1)), (wrap64 (x23_5 + 1)), (by first | rfl | (simp; done) | (simp [*]; done)), (by first | rfl | (simp; done) | (simp [*]; done)), H', ⟨by have := HJ2.out; have := HJ13.out; have := HJ35.out; have := HK4.out; have := HK5.out; have := HJ54.out; omega⟩, ⟨by (with_reducible repeat (first | apply Kd.R_alloc | apply Kd.R_drewN | apply Kd.R_drew)); exact HO_7.out⟩, ⟨by repeat (first | (with_reducible first | exact HB.out | apply below_alloc | apply pw_below_drewN | apply below_drew1) | exact HB.out)⟩⟩
                      ·
                       rw [if_neg c65] at H; have c65b0 : (t380 == (wrap64 (x22_5 + 1))) = false := beq_eq_false_iff_ne.mpr c65; have c65b1 : (t380 != (wrap64 (x22_5 + 1))) = true := bne_iff_ne.mpr c65; exact absurd (Option.some.inj (H.trans (congrArg some HT.out))) Bool.false_ne_true
                     ·
                      replace c64 := Bool.eq_false_iff.mpr c64; subst c64; have H1 : (if t380 = x22_5 then (laws_FnRepeats.l1 kj54 l1 (t349.length : Int) t352 t357 (wrap64 (5 + t363)) x21_4 x22_5 (wrap64 (x23_5 + 1))) else (some false)) = some r := by rw [if_neg (show ¬ (false = true) by decide)] at H; exact H
                      clear H; have H := H1; clear H1; by_cases c66 : t380 = x22_5
                      ·
                       rw [if_pos c66] at H; have c66b0 : (t380 == x22_5) = true := beq_iff_eq.mpr c66; have c66b1 : (t380 != x22_5) = false := bne_eq_false_iff_eq.mpr c66; clear c66; have H' := Aside0.mk H; clear H; go_wp2
                       go_roundg kj54
                       case measure => have := HJ2.out; have := HJ13.out; have := HJ35.out; have := HK4.out; have := HK5.out; have := HJ54.out; omega
                       case rel => exact ⟨(x22_5), (wrap64 (x23_5 + 1)), (by first | rfl | (simp; done) | (simp [*]; done)), (by first | rfl | (simp; done) | (simp [*]; done)), H', ⟨by have := HJ2.out; have := HJ13.out; have := HJ35.out; have := HK4.out; have := HK5.out; have := HJ54.out; omega⟩, ⟨by (with_reducible repeat (first | apply Kd.R_alloc | apply Kd.R_drewN | apply Kd.R_drew)); exact HO_7.out⟩, ⟨by repeat (first | (with_reducible first | exact HB.out | apply below_alloc | apply pw_below_drewN | apply below_drew1) | exact HB.out)⟩⟩
                      ·
                       rw [if_neg c66] at H; have c66b0 : (t380 == x22_5) = false := beq_eq_false_iff_ne.mpr c66; have c66b1 : (t380 != x22_5) = true := bne_iff_ne.mpr c66; exact absurd (Option.some.inj (H.trans (congrArg some HT.out))) Bool.false_ne_true
                 ·
                  rw [if_neg c51] at H; exact absurd H (by simp)
                ·
                 rw [if_neg c50] at H; exact absurd H (by simp)
               ·
                rw [if_neg c49] at H; have c49b0 : decide (x23_5 ≤ (wrap64 (5 + t363))) = false := decide_eq_false c49
                clear c49; have H' := Aside0.mk H; clear H; go_wp2
                go_roundg k5
                case measure => have := HJ2.out; have := HJ13.out; have := HJ35.out; have := HK4.out; have := HK5.out; omega
                case rel => exact ⟨(wrap64 (x21_4 + 1)), (by first | rfl | (simp; done) | (simp [*]; done)), H', ⟨by have := HJ2.out; have := HJ13.out; have := HJ35.out; have := HK4.out; have := HK5.out; omega⟩, ⟨by (with_reducible repeat (first | apply Kd.R_alloc | apply Kd.R_drewN | apply Kd.R_drew)); exact HO_7.out⟩, ⟨by repeat (first | (with_reducible first | exact HB.out | apply below_alloc | apply pw_below_drewN | apply below_drew1) | exact HB.out)⟩⟩
            ·
             rw [if_neg c48] at H; have c48b0 : decide (x21_4 < (t352.length : Int)) = false := decide_eq_false c48
             clear c48; replace H := Option.bind_eq_some_iff.mp H; obtain ⟨⟨t383, t384, t385⟩, A670, H⟩ := H; replace H : ((spec_BusiestDay.f k4 (t349.length : Int) t352 0 (wrap64 (5 + t363))).bind fun bt386 => (if t385 = bt386.2.2 then (if t385 = 0 then (if t383 = bt386.1 then (laws_FnRepeats.j6 k4 l1 (t349.length : Int) t352 (wrap64 (5 + t363)) bt386.1 bt386.2.1 (t384 != bt386.2.1)) else (laws_FnRepeats.j6 k4 l1 (t349.length : Int) t352 (wrap64 (5 + t363)) bt386.1 bt386.2.1 true)) else (laws_FnRepeats.j6 k4 l1 (t349.length : Int) t352 (wrap64 (5 + t363)) bt386.1 bt386.2.1 true)) else (laws_FnRepeats.j6 k4 l1 (t349.length : Int) t352 (wrap64 (5 + t363)) bt386.1 bt386.2.1 true))) = some r := H
             have A67 := Aside0.mk A670; clear A670; replace H := Option.bind_eq_some_iff.mp H; obtain ⟨⟨t386, t387, t388⟩, A680, H⟩ := H; replace H : (if t385 = t388 then (if t385 = 0 then (if t383 = t386 then (laws_FnRepeats.j6 k4 l1 (t349.length : Int) t352 (wrap64 (5 + t363)) t386 t387 (t384 != t387)) else (laws_FnRepeats.j6 k4 l1 (t349.length : Int) t352 (wrap64 (5 + t363)) t386 t387 true)) else (laws_FnRepeats.j6 k4 l1 (t349.length : Int) t352 (wrap64 (5 + t363)) t386 t387 true)) else (laws_FnRepeats.j6 k4 l1 (t349.length : Int) t352 (wrap64 (5 + t363)) t386 t387 true)) = some r := H
             have A68 := Aside0.mk A680; clear A680; have HC69 := Aside0.mk H; clear H; go_upto_region 35 with (first | ((with_reducible refine gate_callee (f := 55) rfl ?_); refine goesL_ (some 246) rfl rfl Try.func55 (by kernel_rfl) rfl #[.int .i64 (t349.length : Int), .slice Ao18 t352.length co18, .int .i64 0, .int .i64 (wrap64 (5 + t363))] rfl (by (try simp only [List.map_toArray, List.map_cons, List.map_nil]); first | done | rfl | (simp only [List.length_drop, List.length_take]; rfl)) ?_; (with_reducible refine (impl_BusiestDay.calls k4 (t349.length : Int) _ _ t352 0 (wrap64 (5 + t363)) t383 t384 t385 _ ?side1 ?side2 A67.out).mono ?_); (case side1 => repeat (first | exact (Kd.R_reads' HO_7.out).2.2 | (with_reducible refine Kd.C_alloc ?_ _) | (with_reducible refine Kd.C_drewN ?_ _) | (with_reducible refine Kd.C_drew ?_))); (case side2 => exact (Kd.R_reads' HO_7.out).2.1); rintro e w70 ⟨rfl, hb⟩; refine ⟨_, rfl, ?_⟩; have n0_ := Aside0.mk (Kd.R_below (by (with_reducible repeat (first | apply Kd.R_alloc | apply Kd.R_drewN | apply Kd.R_drew)); exact HO_7.out) hb); have n1_ := Aside0.mk (below_step (by repeat (first | (with_reducible first | exact HB.out | apply below_alloc | apply pw_below_drewN | apply below_drew1) | exact HB.out)) hb); clear HO_7; clear HB; have HO_7 := n0_; have HB := n1_; clear n0_ n1_; (try clear hb); (try clear hb2); (try clear hk); (try clear hi)) | ((with_reducible refine gate_callee (f := 56) rfl ?_); refine goesL_ (some 254) rfl rfl Try.func56 (by kernel_rfl) rfl #[.int .i64 (t349.length : Int), .slice Ao18 t352.length co18, .int .i64 0, .int .i64 (wrap64 (5 + t363))] rfl (by (try simp only [List.map_toArray, List.map_cons, List.map_nil]); first | done | rfl | (simp only [List.length_drop, List.length_take]; rfl)) ?_; (with_reducible refine (spec_BusiestDay.calls k4 (t349.length : Int) _ _ t352 0 (wrap64 (5 + t363)) t386 t387 t388 _ ?side1 ?side2 A68.out).mono ?_); (case side1 => repeat (first | exact (Kd.R_reads' HO_7.out).2.2 | (with_reducible refine Kd.C_alloc ?_ _) | (with_reducible refine Kd.C_drewN ?_ _) | (with_reducible refine Kd.C_drew ?_))); (case side2 => exact (Kd.R_reads' HO_7.out).2.1); rintro e w71 ⟨rfl, hb⟩; refine ⟨_, rfl, ?_⟩; have n0_ := Aside0.mk (Kd.R_below (by (with_reducible repeat (first | apply Kd.R_alloc | apply Kd.R_drewN | apply Kd.R_drew)); exact HO_7.out) hb); have n1_ := Aside0.mk (below_step (by repeat (first | (with_reducible first | exact HB.out | apply below_alloc | apply pw_below_drewN | apply below_drew1) | exact HB.out)) hb); clear HO_7; clear HB; have HO_7 := n0_; have HB := n1_; clear n0_ n1_; (try clear hb); (try clear hb2); (try clear hk); (try clear hi)))
             (try simp only [Act.put, List.setIfInBounds_toArray, List.set_cons_zero, List.set_cons_succ])
             go_cut [274] (fun v274 wc => ∃ (kq : Nat) (x274_68 : Bool), v274 = .bool x274_68 ∧ Aside0 (laws_FnRepeats.j6 kq l1 (t349.length : Int) t352 (wrap64 (5 + t363)) t386 t387 x274_68 = some r) ∧ Aside0 (kq ≤ k4) ∧ Aside0 (Kd.R k53 53 wc w.heap.size (fun _ => True) (.slice Ao18 t352.length co18) t352) ∧ Aside0 (Below w.heap.size w wc))
             case first => as_aux_lemma =>
              have H := HC69.out; clear HC69; by_cases c72 : t385 = t388
              ·
               rw [if_pos c72] at H; have c72b0 : (t385 == t388) = true := beq_iff_eq.mpr c72; have c72b1 : (t385 != t388) = false := bne_eq_false_iff_eq.mpr c72; clear c72; (first | rw [c72b0] | (simp only [i64_w, i32_w]; rw [c72b0]) | skip)
               by_cases c73 : t385 = 0
               ·
                rw [if_pos c73] at H; have c73b0 : (t385 == 0) = true := beq_iff_eq.mpr c73; have c73b1 : (t385 != 0) = false := bne_eq_false_iff_eq.mpr c73; clear c73; by_cases c74 : t383 = t386
                ·
                 rw [if_pos c74] at H; have c74b0 : (t383 == t386) = true := beq_iff_eq.mpr c74; have c74b1 : (t383 != t386) = false := bne_eq_false_iff_eq.mpr c74; clear c74; have H' := Aside0.mk H; clear H; go_wp2
                 go_meet
                 case rel => exact ⟨_, ((t384 != t387)), (by first | rfl | (simp; done) | (simp [*]; done)), H', ⟨by have := HJ2.out; have := HJ13.out; have := HJ35.out; have := HK4.out; first | omega | exact Nat.le_refl _⟩, ⟨by (with_reducible repeat (first | apply Kd.R_alloc | apply Kd.R_drewN | apply Kd.R_drew)); exact HO_7.out⟩, ⟨by repeat (first | (with_reducible first | exact HB.out | apply below_alloc | apply pw_below_drewN | apply below_drew1) | exact HB.out)⟩⟩
                ·
                 rw [if_neg c74] at H; have c74b0 : (t383 == t386) = false := beq_eq_false_iff_ne.mpr c74; have c74b1 : (t383 != t386) = true := bne_iff_ne.mpr c74; exact absurd (H.trans (congrArg some HT.out)) (laws_FnRepeats.dead_j6 _ _ _ _ _ _ _)
               ·
                rw [if_neg c73] at H; have c73b0 : (t385 == 0) = false := beq_eq_false_iff_ne.mpr c73; have c73b1 : (t385 != 0) = true := bne_iff_ne.mpr c73; exact absurd (H.trans (congrArg some HT.out)) (laws_FnRepeats.dead_j6 _ _ _ _ _ _ _)
              ·
               rw [if_neg c72] at H; have c72b0 : (t385 == t388) = false := beq_eq_false_iff_ne.mpr c72; have c72b1 : (t385 != t388) = true := bne_iff_ne.mpr c72; (first | rw [c72b0] | (simp only [i64_w, i32_w]; rw [c72b0]) | skip)
               exact absurd (H.trans (congrArg some HT.out)) (laws_FnRepeats.dead_j6 _ _ _ _ _ _ _)
             case rest => as_aux_lemma =>
              clear HC69; try clear c1
              try clear c2
              try clear p2
              try clear c3
              try clear p3
              try clear q3
              try clear hx3
              try clear c4
              try clear c5
              try clear c6
              try clear p6
              try clear c7
              try clear c23
              try clear c23b0
              try clear c23b1
              try clear c24
              try clear c24b0
              try clear c24b1
              try clear c25
              try clear c25b0
              try clear c25b1
              try clear c26
              try clear c26b0
              try clear c27
              try clear c27b0
              try clear c27b1
              try clear c28
              try clear c28b0
              try clear c28b1
              try clear c29
              try clear c29b0
              try clear c29b1
              try clear c30
              try clear c30b0
              try clear c30b1
              try clear c31
              try clear c31b0
              try clear c31b1
              try clear c32
              try clear c33
              try clear p37
              try clear q37
              try clear hx37
              try clear p38
              try clear q38
              try clear hx38
              try clear c40
              try clear c40b0
              try clear c40b1
              try clear c41
              try clear c41b0
              try clear c41b1
              try clear c42
              try clear c42b0
              try clear c42b1
              try clear c42b2
              try clear c43
              try clear c47
              try clear c48
              try clear c48b0
              try clear c49
              try clear c49b0
              try clear c50
              try clear c50b0
              try clear c51
              try clear c51b0
              try clear c52
              try clear c53
              try clear c54
              try clear c55
              try clear c56
              try clear c59
              try clear c59b0
              try clear c59b1
              try clear c60
              try clear c60b0
              try clear c60b1
              try clear c61
              try clear c61b0
              try clear c61b1
              try clear c62
              try clear c62b0
              try clear c63
              try clear c64
              try clear p64
              try clear c65
              try clear c65b0
              try clear c65b1
              try clear c66
              try clear c66b0
              try clear c66b1
              try clear c72
              try clear c72b0
              try clear c72b1
              try clear c73
              try clear c73b0
              try clear c73b1
              try clear c74
              try clear c74b0
              try clear c74b1
              try clear hx373_0
              try clear hx373_1
              try clear hx373_2
              try clear hx373_3
              try clear hx373_4
              try clear hx373_5
              try clear hx376_0
              try clear hx376_1
              try clear hx376_2
              try clear hx376_3
              try clear hx376_4
              try clear hx376_5
              try clear hx379_0
              try clear hx379_1
              try clear hx379_2
              try clear hx379_3
              try clear hx379_4
              try clear hx379_5
              try clear hx382_0
              try clear hx382_1
              try clear hx382_2
              try clear hx382_3
              try clear hx382_4
              try clear hx382_5
              try clear p2
              try clear p3
              try clear p37
              try clear p373
              try clear p376
              try clear p379
              try clear p38
              try clear p382
              try clear p6
              try clear q3
              try clear q37
              try clear q373
              try clear q376
              try clear q379
              try clear q38
              try clear q382
              obtain ⟨kq, x274_68, rfl, HA, HJ68, HO_7, HB⟩ := hcut
              cases kq with
              | zero => exact absurd HA.out (by simp [laws_FnRepeats.j6])
              | succ kj68 =>
               have H := HA.out; clear HA; simp only [laws_FnRepeats.j6] at H
               by_cases c75 : x274_68 = true
               ·
                subst c75; have H1 : (some false) = some r := by rw [if_pos rfl] at H; exact H
                clear H; have H := H1; clear H1; exact absurd (Option.some.inj (H.trans (congrArg some HT.out))) Bool.false_ne_true
               ·
                replace c75 := Bool.eq_false_iff.mpr c75; subst c75; have H1 : (laws_FnRepeats.l2 kj68 l1 (t349.length : Int) t352 (wrap64 (5 + t363)) t386 t387 0) = some r := by rw [if_neg (show ¬ (false = true) by decide)] at H; exact H
                clear H; have H := H1; clear H1; have H' := Aside0.mk H; clear H; go_wp2
                go_loopg [36] kj68 (fun kq v36 w' => ∃ (x36_6 : Int), v36 = .int .i64 x36_6 ∧ Aside0 (laws_FnRepeats.l2 kq l1 (t349.length : Int) t352 (wrap64 (5 + t363)) t386 t387 x36_6 = some r) ∧ Aside0 (kq ≤ kj68) ∧ Aside0 (Kd.R k53 53 w' w.heap.size (fun _ => True) (.slice Ao18 t352.length co18) t352) ∧ Aside0 (Below w.heap.size w w'))
                case atStart => exact ⟨(0), (by first | rfl | (simp; done) | (simp [*]; done)), H', ⟨Nat.le_refl _⟩, ⟨by (with_reducible repeat (first | apply Kd.R_alloc | apply Kd.R_drewN | apply Kd.R_drew)); exact HO_7.out⟩, ⟨by repeat (first | (with_reducible first | exact HB.out | apply below_alloc | apply pw_below_drewN | apply below_drew1) | exact HB.out)⟩⟩
                case round => as_aux_lemma =>
                 clear H'; try clear c1
                 try clear c2
                 try clear p2
                 try clear c3
                 try clear p3
                 try clear q3
                 try clear hx3
                 try clear c4
                 try clear c5
                 try clear c6
                 try clear p6
                 try clear c7
                 try clear c23
                 try clear c23b0
                 try clear c23b1
                 try clear c24
                 try clear c24b0
                 try clear c24b1
                 try clear c25
                 try clear c25b0
                 try clear c25b1
                 try clear c26
                 try clear c26b0
                 try clear c27
                 try clear c27b0
                 try clear c27b1
                 try clear c28
                 try clear c28b0
                 try clear c28b1
                 try clear c29
                 try clear c29b0
                 try clear c29b1
                 try clear c30
                 try clear c30b0
                 try clear c30b1
                 try clear c31
                 try clear c31b0
                 try clear c31b1
                 try clear c32
                 try clear c33
                 try clear p37
                 try clear q37
                 try clear hx37
                 try clear p38
                 try clear q38
                 try clear hx38
                 try clear c40
                 try clear c40b0
                 try clear c40b1
                 try clear c41
                 try clear c41b0
                 try clear c41b1
                 try clear c42
                 try clear c42b0
                 try clear c42b1
                 try clear c42b2
                 try clear c43
                 try clear c47
                 try clear c48
                 try clear c48b0
                 try clear c49
                 try clear c49b0
                 try clear c50
                 try clear c50b0
                 try clear c51
                 try clear c51b0
                 try clear c52
                 try clear c53
                 try clear c54
                 try clear c55
                 try clear c56
                 try clear c59
                 try clear c59b0
                 try clear c59b1
                 try clear c60
                 try clear c60b0
                 try clear c60b1
                 try clear c61
                 try clear c61b0
                 try clear c61b1
                 try clear c62
                 try clear c62b0
                 try clear c63
                 try clear c64
                 try clear p64
                 try clear c65
                 try clear c65b0
                 try clear c65b1
                 try clear c66
                 try clear c66b0
                 try clear c66b1
                 try clear c72
                 try clear c72b0
                 try clear c72b1
                 try clear c73
                 try clear c73b0
                 try clear c73b1
                 try clear c74
                 try clear c74b0
                 try clear c74b1
                 try clear c75
                 try clear hx373_0
                 try clear hx373_1
                 try clear hx373_2
                 try clear hx373_3
                 try clear hx373_4
                 try clear hx373_5
                 try clear hx376_0
                 try clear hx376_1
                 try clear hx376_2
                 try clear hx376_3
                 try clear hx376_4
                 try clear hx376_5
                 try clear hx379_0
                 try clear hx379_1
                 try clear hx379_2
                 try clear hx379_3
                 try clear hx379_4
                 try clear hx379_5
                 try clear hx382_0
                 try clear hx382_1
                 try clear hx382_2
                 try clear hx382_3
                 try clear hx382_4
                 try clear hx382_5
                 try clear p2
                 try clear p3
                 try clear p37
                 try clear p373
                 try clear p376
                 try clear p379
                 try clear p38
                 try clear p382
                 try clear p6
                 try clear p64
                 try clear q3
                 try clear q37
                 try clear q373
                 try clear q376
                 try clear q379
                 try clear q38
                 try clear q382
                 obtain ⟨x36_6, rfl, HA, HK6, HO_7, HB⟩ := hrel
                 cases gk with
                 | zero => exact absurd HA.out (by simp [laws_FnRepeats.l2])
                 | succ k6 =>
                  have H := HA.out; clear HA; simp only [laws_FnRepeats.l2] at H
                  by_cases c76 : x36_6 ≤ (wrap64 (5 + t363))
                  ·
                   rw [if_pos c76] at H; have c76b0 : decide (x36_6 ≤ (wrap64 (5 + t363))) = true := decide_eq_true c76
                   clear c76; have H' := Aside0.mk H; clear H; go_wp2
                   go_loopg [37, 38] k6 (fun kq v37 v38 w' => ∃ (x37_7 : Int) (x38_7 : Int), v37 = .int .i64 x37_7 ∧ v38 = .int .i64 x38_7 ∧ Aside0 (laws_FnRepeats.l3 kq l1 (t349.length : Int) t352 (wrap64 (5 + t363)) t386 t387 x36_6 x37_7 x38_7 = some r) ∧ Aside0 (kq ≤ k6) ∧ Aside0 (Kd.R k53 53 w' w.heap.size (fun _ => True) (.slice Ao18 t352.length co18) t352) ∧ Aside0 (Below w.heap.size w w'))
                   case atStart => exact ⟨(0), (0), (by first | rfl | (simp; done) | (simp [*]; done)), (by first | rfl | (simp; done) | (simp [*]; done)), H', ⟨Nat.le_refl _⟩, ⟨by (with_reducible repeat (first | apply Kd.R_alloc | apply Kd.R_drewN | apply Kd.R_drew)); exact HO_7.out⟩, ⟨by repeat (first | (with_reducible first | exact HB.out | apply below_alloc | apply pw_below_drewN | apply below_drew1) | exact HB.out)⟩⟩
                   case round => as_aux_lemma =>
                    clear H'; try clear c1
                    try clear c2
                    try clear p2
                    try clear c3
                    try clear p3
                    try clear q3
                    try clear hx3
                    try clear c4
                    try clear c5
                    try clear c6
                    try clear p6
                    try clear c7
                    try clear c23
                    try clear c23b0
                    try clear c23b1
                    try clear c24
                    try clear c24b0
                    try clear c24b1
                    try clear c25
                    try clear c25b0
                    try clear c25b1
                    try clear c26
                    try clear c26b0
                    try clear c27
                    try clear c27b0
                    try clear c27b1
                    try clear c28
                    try clear c28b0
                    try clear c28b1
                    try clear c29
                    try clear c29b0
                    try clear c29b1
                    try clear c30
                    try clear c30b0
                    try clear c30b1
                    try clear c31
                    try clear c31b0
                    try clear c31b1
                    try clear c32
                    try clear c33
                    try clear p37
                    try clear q37
                    try clear hx37
                    try clear p38
                    try clear q38
                    try clear hx38
                    try clear c40
                    try clear c40b0
                    try clear c40b1
                    try clear c41
                    try clear c41b0
                    try clear c41b1
                    try clear c42
                    try clear c42b0
                    try clear c42b1
                    try clear c42b2
                    try clear c43
                    try clear c47
                    try clear c48
                    try clear c48b0
                    try clear c49
                    try clear c49b0
                    try clear c50
                    try clear c50b0
                    try clear c51
                    try clear c51b0
                    try clear c52
                    try clear c53
                    try clear c54
                    try clear c55
                    try clear c56
                    try clear c59
                    try clear c59b0
                    try clear c59b1
                    try clear c60
                    try clear c60b0
                    try clear c60b1
                    try clear c61
                    try clear c61b0
                    try clear c61b1
                    try clear c62
                    try clear c62b0
                    try clear c63
                    try clear c64
                    try clear p64
                    try clear c65
                    try clear c65b0
                    try clear c65b1
                    try clear c66
                    try clear c66b0
                    try clear c66b1
                    try clear c72
                    try clear c72b0
                    try clear c72b1
                    try clear c73
                    try clear c73b0
                    try clear c73b1
                    try clear c74
                    try clear c74b0
                    try clear c74b1
                    try clear c75
                    try clear c76
                    try clear c76b0
                    try clear hx373_0
                    try clear hx373_1
                    try clear hx373_2
                    try clear hx373_3
                    try clear hx373_4
                    try clear hx373_5
                    try clear hx376_0
                    try clear hx376_1
                    try clear hx376_2
                    try clear hx376_3
                    try clear hx376_4
                    try clear hx376_5
                    try clear hx379_0
                    try clear hx379_1
                    try clear hx379_2
                    try clear hx379_3
                    try clear hx379_4
                    try clear hx379_5
                    try clear hx382_0
                    try clear hx382_1
                    try clear hx382_2
                    try clear hx382_3
                    try clear hx382_4
                    try clear hx382_5
                    try clear p2
                    try clear p3
                    try clear p37
                    try clear p373
                    try clear p376
                    try clear p379
                    try clear p38
                    try clear p382
                    try clear p6
                    try clear p64
                    try clear q3
                    try clear q37
                    try clear q373
                    try clear q376
                    try clear q379
                    try clear q38
                    try clear q382
                    obtain ⟨x37_7, x38_7, rfl, rfl, HA, HK7, HO_7, HB⟩ := hrel
                    cases gk with
                    | zero => exact absurd HA.out (by simp [laws_FnRepeats.l3])
                    | succ k7 =>
                     have H := HA.out; clear HA; simp only [laws_FnRepeats.l3] at H
                     by_cases c77 : x38_7 < (t352.length : Int)
                     ·
                      rw [if_pos c77] at H; have c77b0 : decide (x38_7 < (t352.length : Int)) = true := decide_eq_true c77
                      clear c77; by_cases c78 : 0 ≤ x38_7
                      ·
                       rw [if_pos c78] at H; have c78b0 : decide (0 ≤ x38_7) = true := decide_eq_true c78
                       clear c78; replace H := Option.bind_eq_some_iff.mp H; obtain ⟨⟨t390, t391⟩, A790, H⟩ := H; replace H : (if t391 = 0 then (if t390 = true then (laws_FnRepeats.l3 k7 l1 (t349.length : Int) t352 (wrap64 (5 + t363)) t386 t387 x36_6 (wrap64 (x37_7 + (wrap64 ((rd_T53 t352 x38_7).f4)))) (wrap64 (x38_7 + 1))) else (laws_FnRepeats.l3 k7 l1 (t349.length : Int) t352 (wrap64 (5 + t363)) t386 t387 x36_6 x37_7 (wrap64 (x38_7 + 1)))) else (some false)) = some r := H
                       have A79 := Aside0.mk A790; clear A790; by_cases c80 : t391 = 0
                       ·
                        rw [if_pos c80] at H; have c80b0 : (t391 == 0) = true := beq_iff_eq.mpr c80; have c80b1 : (t391 != 0) = false := bne_eq_false_iff_eq.mpr c80; clear c80; by_cases c81 : t390 = true
                        ·
                         subst c81; have H1 : (laws_FnRepeats.l3 k7 l1 (t349.length : Int) t352 (wrap64 (5 + t363)) t386 t387 x36_6 (wrap64 (x37_7 + (wrap64 ((rd_T53 t352 x38_7).f4)))) (wrap64 (x38_7 + 1))) = some r := by rw [if_pos rfl] at H; exact H
                         clear H; have H := H1; clear H1; have H' := Aside0.mk H; clear H; have p389 : 0 ≤ (x38_7 : Int) := of_decide_eq_true (by first | (with_reducible assumption) | assumption)
                         have q389 : x38_7 < (t352.length : Int) := of_decide_eq_true (by first | (with_reducible assumption) | assumption)
                         obtain ⟨ad389, e389, hx389_0, hx389_1, hx389_2, hx389_3, hx389_4, hx389_5⟩ := at_T53 (Kd.R_reads' HO_7.out).2.2 x38_7 p389 q389
                         cases e389
                         replace p389 := eq_true p389
                         replace q389 := eq_true q389
                         go_wp2_with (first | ((with_reducible refine gate_callee (f := 57) rfl ?_); refine goesL_ (some 293) rfl rfl Try.func57 (by kernel_rfl) rfl #[.int .i64 (t349.length : Int), .agg #[.int .i16 ((rd_T53 t352 x38_7).f0), .int .i16 ((rd_T53 t352 x38_7).f1), .int .i16 ((rd_T53 t352 x38_7).f2), .int .i16 ((rd_T53 t352 x38_7).f3), .int .i16 ((rd_T53 t352 x38_7).f4), .int .i8 ((rd_T53 t352 x38_7).f5)], .int .i64 x36_6] rfl (by (try simp only [List.map_toArray, List.map_cons, List.map_nil]); first | done | rfl | (simp only [List.length_drop, List.length_take]; rfl)) ?_; (with_reducible refine (spec_WalksOn.calls k7 (t349.length : Int) ((rd_T53 t352 x38_7).f0) ((rd_T53 t352 x38_7).f1) ((rd_T53 t352 x38_7).f2) ((rd_T53 t352 x38_7).f3) ((rd_T53 t352 x38_7).f4) ((rd_T53 t352 x38_7).f5) x36_6 true t391 _ A79.out).mono ?_); rintro e w82 ⟨rfl, hb⟩; refine ⟨_, rfl, ?_⟩; have n0_ := Aside0.mk (Kd.R_below (by (with_reducible repeat (first | apply Kd.R_alloc | apply Kd.R_drewN | apply Kd.R_drew)); exact HO_7.out) hb); have n1_ := Aside0.mk (below_step (by repeat (first | (with_reducible first | exact HB.out | apply below_alloc | apply pw_below_drewN | apply below_drew1) | exact HB.out)) hb); clear HO_7; clear HB; have HO_7 := n0_; have HB := n1_; clear n0_ n1_; (try clear hb); (try clear hb2); (try clear hk); (try clear hi); have p392 : 0 ≤ (x38_7 : Int) := of_decide_eq_true (by first | (with_reducible assumption) | assumption); have q392 : x38_7 < (t352.length : Int) := of_decide_eq_true (by first | (with_reducible assumption) | assumption); obtain ⟨ad392, e392, hx392_0, hx392_1, hx392_2, hx392_3, hx392_4, hx392_5⟩ := at_T53 (Kd.R_reads' HO_7.out).2.2 x38_7 p392 q392; obtain rfl : ad389 = ad392 := (by injection e392); replace p392 := eq_true p392; replace q392 := eq_true q392))
                         go_roundg k7
                         case measure => have := HJ2.out; have := HJ13.out; have := HJ35.out; have := HK4.out; have := HJ68.out; have := HK6.out; have := HK7.out; omega
                         case rel => exact ⟨(wrap64 (x37_7 + (wrap64 ((rd_T53 t352 x38_7).f4)))), (wrap64 (x38_7 + 1)), (by first | rfl | (simp; done) | (simp [*]; done)), (by first | rfl | (simp; done) | (simp [*]; done)), H', ⟨by have := HJ2.out; have := HJ13.out; have := HJ35.out; have := HK4.out; have := HJ68.out; have := HK6.out; have := HK7.out; omega⟩, ⟨by (with_reducible repeat (first | apply Kd.R_alloc | apply Kd.R_drewN | apply Kd.R_drew)); exact HO_7.out⟩, ⟨by repeat (first | (with_reducible first | exact HB.out | apply below_alloc | apply pw_below_drewN | apply below_drew1) | exact HB.out)⟩⟩
                        ·
                         replace c81 := Bool.eq_false_iff.mpr c81; subst c81; have H1 : (laws_FnRepeats.l3 k7 l1 (t349.length : Int) t352 (wrap64 (5 + t363)) t386 t387 x36_6 x37_7 (wrap64 (x38_7 + 1))) = some r := by rw [if_neg (show ¬ (false = true) by decide)] at H; exact H
                         clear H; have H := H1; clear H1; have H' := Aside0.mk H; clear H; have p389 : 0 ≤ (x38_7 : Int) := of_decide_eq_true (by first | (with_reducible assumption) | assumption)
                         have q389 : x38_7 < (t352.length : Int) := of_decide_eq_true (by first | (with_reducible assumption) | assumption)
                         obtain ⟨ad389, e389, hx389_0, hx389_1, hx389_2, hx389_3, hx389_4, hx389_5⟩ := at_T53 (Kd.R_reads' HO_7.out).2.2 x38_7 p389 q389
                         cases e389
                         replace p389 := eq_true p389
                         replace q389 := eq_true q389
                         go_wp2_with (first | ((with_reducible refine gate_callee (f := 57) rfl ?_); refine goesL_ (some 293) rfl rfl Try.func57 (by kernel_rfl) rfl #[.int .i64 (t349.length : Int), .agg #[.int .i16 ((rd_T53 t352 x38_7).f0), .int .i16 ((rd_T53 t352 x38_7).f1), .int .i16 ((rd_T53 t352 x38_7).f2), .int .i16 ((rd_T53 t352 x38_7).f3), .int .i16 ((rd_T53 t352 x38_7).f4), .int .i8 ((rd_T53 t352 x38_7).f5)], .int .i64 x36_6] rfl (by (try simp only [List.map_toArray, List.map_cons, List.map_nil]); first | done | rfl | (simp only [List.length_drop, List.length_take]; rfl)) ?_; (with_reducible refine (spec_WalksOn.calls k7 (t349.length : Int) ((rd_T53 t352 x38_7).f0) ((rd_T53 t352 x38_7).f1) ((rd_T53 t352 x38_7).f2) ((rd_T53 t352 x38_7).f3) ((rd_T53 t352 x38_7).f4) ((rd_T53 t352 x38_7).f5) x36_6 false t391 _ A79.out).mono ?_); rintro e w83 ⟨rfl, hb⟩; refine ⟨_, rfl, ?_⟩; have n0_ := Aside0.mk (Kd.R_below (by (with_reducible repeat (first | apply Kd.R_alloc | apply Kd.R_drewN | apply Kd.R_drew)); exact HO_7.out) hb); have n1_ := Aside0.mk (below_step (by repeat (first | (with_reducible first | exact HB.out | apply below_alloc | apply pw_below_drewN | apply below_drew1) | exact HB.out)) hb); clear HO_7; clear HB; have HO_7 := n0_; have HB := n1_; clear n0_ n1_; (try clear hb); (try clear hb2); (try clear hk); (try clear hi)))
                         go_roundg k7
                         case measure => have := HJ2.out; have := HJ13.out; have := HJ35.out; have := HK4.out; have := HJ68.out; have := HK6.out; have := HK7.out; omega
                         case rel => exact ⟨(x37_7), (wrap64 (x38_7 + 1)), (by first | rfl | (simp; done) | (simp [*]; done)), (by first | rfl | (simp; done) | (simp [*]; done)), H', ⟨by have := HJ2.out; have := HJ13.out; have := HJ35.out; have := HK4.out; have := HJ68.out; have := HK6.out; have := HK7.out; omega⟩, ⟨by (with_reducible repeat (first | apply Kd.R_alloc | apply Kd.R_drewN | apply Kd.R_drew)); exact HO_7.out⟩, ⟨by repeat (first | (with_reducible first | exact HB.out | apply below_alloc | apply pw_below_drewN | apply below_drew1) | exact HB.out)⟩⟩
                       ·
                        rw [if_neg c80] at H; have c80b0 : (t391 == 0) = false := beq_eq_false_iff_ne.mpr c80; have c80b1 : (t391 != 0) = true := bne_iff_ne.mpr c80; exact absurd (Option.some.inj (H.trans (congrArg some HT.out))) Bool.false_ne_true
                      ·
                       rw [if_neg c78] at H; exact absurd H (by simp)
                     ·
                      rw [if_neg c77] at H; have c77b0 : decide (x38_7 < (t352.length : Int)) = false := decide_eq_false c77
                      clear c77; by_cases c85 : x37_7 > t387
                      ·
                       rw [if_pos c85] at H; have c85b0 : decide (t387 < x37_7) = true := decide_eq_true c85
                       clear c85; exact absurd (Option.some.inj (H.trans (congrArg some HT.out))) Bool.false_ne_true
                      ·
                       rw [if_neg c85] at H; have c85b0 : decide (t387 < x37_7) = false := decide_eq_false c85
                       clear c85; by_cases c86 : x36_6 < t386
                       ·
                        rw [if_pos c86] at H; have c86b0 : decide (x36_6 < t386) = true := decide_eq_true c86
                        clear c86; by_cases c87 : x37_7 ≥ t387
                        ·
                         rw [if_pos c87] at H; have c87b0 : decide (t387 ≤ x37_7) = true := decide_eq_true c87
                         clear c87; exact absurd (Option.some.inj (H.trans (congrArg some HT.out))) Bool.false_ne_true
                        ·
                         rw [if_neg c87] at H; have c87b0 : decide (t387 ≤ x37_7) = false := decide_eq_false c87
                         clear c87; by_cases c88 : x36_6 = t386
                         ·
                          rw [if_pos c88] at H; have c88b0 : (x36_6 == t386) = true := beq_iff_eq.mpr c88; have c88b1 : (x36_6 != t386) = false := bne_eq_false_iff_eq.mpr c88; clear c88; by_cases c89 : x37_7 = t387
                          ·
                           rw [if_pos c89] at H; have c89b0 : (x37_7 == t387) = true := beq_iff_eq.mpr c89; have c89b1 : (x37_7 != t387) = false := bne_eq_false_iff_eq.mpr c89; clear c89; have H' := Aside0.mk H; clear H; go_wp2
                           go_roundg k7
                           case measure => have := HJ2.out; have := HJ13.out; have := HJ35.out; have := HK4.out; have := HJ68.out; have := HK6.out; have := HK7.out; omega
                           case rel => exact ⟨(wrap64 (x36_6 + 1)), (by first | rfl | (simp; done) | (simp [*]; done)), H', ⟨by have := HJ2.out; have := HJ13.out; have := HJ35.out; have := HK4.out; have := HJ68.out; have := HK6.out; have := HK7.out; omega⟩, ⟨by (with_reducible repeat (first | apply Kd.R_alloc | apply Kd.R_drewN | apply Kd.R_drew)); exact HO_7.out⟩, ⟨by repeat (first | (with_reducible first | exact HB.out | apply below_alloc | apply pw_below_drewN | apply below_drew1) | exact HB.out)⟩⟩
                          ·
                           rw [if_neg c89] at H; have c89b0 : (x37_7 == t387) = false := beq_eq_false_iff_ne.mpr c89; have c89b1 : (x37_7 != t387) = true := bne_iff_ne.mpr c89; obtain rfl := Option.some.inj H; go_wp2
                           go_ret
                           exact ⟨by first | rfl | (simp [errW_none, errW_some] <;> rfl) | (simp [*, errW_none, errW_some] <;> rfl), by repeat (first | (with_reducible first | exact HB.out | apply below_alloc | apply pw_below_drewN | apply below_drew1) | exact HB.out)⟩
                         ·
                          rw [if_neg c88] at H; have c88b0 : (x36_6 == t386) = false := beq_eq_false_iff_ne.mpr c88; have c88b1 : (x36_6 != t386) = true := bne_iff_ne.mpr c88; have H' := Aside0.mk H; clear H; go_wp2
                          go_roundg k7
                          case measure => have := HJ2.out; have := HJ13.out; have := HJ35.out; have := HK4.out; have := HJ68.out; have := HK6.out; have := HK7.out; omega
                          case rel => exact ⟨(wrap64 (x36_6 + 1)), (by first | rfl | (simp; done) | (simp [*]; done)), H', ⟨by have := HJ2.out; have := HJ13.out; have := HJ35.out; have := HK4.out; have := HJ68.out; have := HK6.out; have := HK7.out; omega⟩, ⟨by (with_reducible repeat (first | apply Kd.R_alloc | apply Kd.R_drewN | apply Kd.R_drew)); exact HO_7.out⟩, ⟨by repeat (first | (with_reducible first | exact HB.out | apply below_alloc | apply pw_below_drewN | apply below_drew1) | exact HB.out)⟩⟩
                       ·
                        rw [if_neg c86] at H; have c86b0 : decide (x36_6 < t386) = false := decide_eq_false c86
                        clear c86; by_cases c90 : x36_6 = t386
                        ·
                         rw [if_pos c90] at H; have c90b0 : (x36_6 == t386) = true := beq_iff_eq.mpr c90; have c90b1 : (x36_6 != t386) = false := bne_eq_false_iff_eq.mpr c90; clear c90; by_cases c91 : x37_7 = t387
                         ·
                          rw [if_pos c91] at H; have c91b0 : (x37_7 == t387) = true := beq_iff_eq.mpr c91; have c91b1 : (x37_7 != t387) = false := bne_eq_false_iff_eq.mpr c91; clear c91; have H' := Aside0.mk H; clear H; go_wp2
                          go_roundg k7
                          case measure => have := HJ2.out; have := HJ13.out; have := HJ35.out; have := HK4.out; have := HJ68.out; have := HK6.out; have := HK7.out; omega
                          case rel => exact ⟨(wrap64 (x36_6 + 1)), (by first | rfl | (simp; done) | (simp [*]; done)), H', ⟨by have := HJ2.out; have := HJ13.out; have := HJ35.out; have := HK4.out; have := HJ68.out; have := HK6.out; have := HK7.out; omega⟩, ⟨by (with_reducible repeat (first | apply Kd.R_alloc | apply Kd.R_drewN | apply Kd.R_drew)); exact HO_7.out⟩, ⟨by repeat (first | (with_reducible first | exact HB.out | apply below_alloc | apply pw_below_drewN | apply below_drew1) | exact HB.out)⟩⟩
                         ·
                          rw [if_neg c91] at H; have c91b0 : (x37_7 == t387) = false := beq_eq_false_iff_ne.mpr c91; have c91b1 : (x37_7 != t387) = true := bne_iff_ne.mpr c91; obtain rfl := Option.some.inj H; go_wp2
                          go_ret
                          exact ⟨by first | rfl | (simp [errW_none, errW_some] <;> rfl) | (simp [*, errW_none, errW_some] <;> rfl), by repeat (first | (with_reducible first | exact HB.out | apply below_alloc | apply pw_below_drewN | apply below_drew1) | exact HB.out)⟩
                        ·
                         rw [if_neg c90] at H; have c90b0 : (x36_6 == t386) = false := beq_eq_false_iff_ne.mpr c90; have c90b1 : (x36_6 != t386) = true := bne_iff_ne.mpr c90; have H' := Aside0.mk H; clear H; go_wp2
                         go_roundg k7
                         case measure => have := HJ2.out; have := HJ13.out; have := HJ35.out; have := HK4.out; have := HJ68.out; have := HK6.out; have := HK7.out; omega
                         case rel => exact ⟨(wrap64 (x36_6 + 1)), (by first | rfl | (simp; done) | (simp [*]; done)), H', ⟨by have := HJ2.out; have := HJ13.out; have := HJ35.out; have := HK4.out; have := HJ68.out; have := HK6.out; have := HK7.out; omega⟩, ⟨by (with_reducible repeat (first | apply Kd.R_alloc | apply Kd.R_drewN | apply Kd.R_drew)); exact HO_7.out⟩, ⟨by repeat (first | (with_reducible first | exact HB.out | apply below_alloc | apply pw_below_drewN | apply below_drew1) | exact HB.out)⟩⟩
                  ·
                   rw [if_neg c76] at H; have c76b0 : decide (x36_6 ≤ (wrap64 (5 + t363))) = false := decide_eq_false c76
                   clear c76; by_cases c92 : (t352.length : Int) < 2
                   ·
                    rw [if_pos c92] at H; have c92b0 : decide ((t352.length : Int) < 2) = true := decide_eq_true c92
                    have c92b1 : decide (t352.length < 2) = true := decide_eq_true (by omega)
                    clear c92; obtain rfl := Option.some.inj H; go_wp2
                    go_ret
                    exact ⟨by first | rfl | (simp [errW_none, errW_some] <;> rfl) | (simp [*, errW_none, errW_some] <;> rfl), by repeat (first | (with_reducible first | exact HB.out | apply below_alloc | apply pw_below_drewN | apply below_drew1) | exact HB.out)⟩
                   ·
                    rw [if_neg c92] at H; have c92b0 : decide ((t352.length : Int) < 2) = false := decide_eq_false c92
                    have c92b1 : decide (t352.length < 2) = false := decide_eq_false (by omega)
                    clear c92; replace H := Option.bind_eq_some_iff.mp H; obtain ⟨t393, A930, H⟩ := H; replace H : (if 0 < (t352.length : Int) then (if 1 < (t352.length : Int) then ((impl_MeetingDay.f k6 (t349.length : Int) ((rd_T53 t352 0).f0) ((rd_T53 t352 0).f1) ((rd_T53 t352 0).f2) ((rd_T53 t352 0).f3) ((rd_T53 t352 0).f4) ((rd_T53 t352 0).f5) ((rd_T53 t352 1).f0) ((rd_T53 t352 1).f1) ((rd_T53 t352 1).f2) ((rd_T53 t352 1).f3) ((rd_T53 t352 1).f4) ((rd_T53 t352 1).f5) t393).bind fun bt396 => ((spec_MeetingDay.f k6 (t349.length : Int) ((rd_T53 t352 0).f0) ((rd_T53 t352 0).f1) ((rd_T53 t352 0).f2) ((rd_T53 t352 0).f3) ((rd_T53 t352 0).f4) ((rd_T53 t352 0).f5) ((rd_T53 t352 1).f0) ((rd_T53 t352 1).f1) ((rd_T53 t352 1).f2) ((rd_T53 t352 1).f3) ((rd_T53 t352 1).f4) ((rd_T53 t352 1).f5) t393).bind fun bt400 => (if bt396.2 = bt400.2 then (if bt396.1 = bt400.1 then (if bt396.2 = 0 then (laws_FnRepeats.j9 k6 (t349.length : Int) t352 t393 bt396.2 bt400.1 false) else (laws_FnRepeats.j9 k6 (t349.length : Int) t352 t393 bt396.2 bt400.1 (bt396.2 != 6))) else (laws_FnRepeats.j9 k6 (t349.length : Int) t352 t393 bt396.2 bt400.1 true)) else (laws_FnRepeats.j9 k6 (t349.length : Int) t352 t393 bt396.2 bt400.1 true)))) else (none)) else (none)) = some r := H
                    have A93 := Aside0.mk A930; clear A930; by_cases c94 : 0 < (t352.length : Int)
                    ·
                     rw [if_pos c94] at H; have c94b0 : decide (0 < (t352.length : Int)) = true := decide_eq_true c94
                     have c94b1 : decide (0 < t352.length) = true := decide_eq_true (by omega)
                     clear c94; by_cases c95 : 1 < (t352.length : Int)
                     ·
                      rw [if_pos c95] at H; have c95b0 : decide (1 < (t352.length : Int)) = true := decide_eq_true c95
                      have c95b1 : decide (1 < t352.length) = true := decide_eq_true (by omega)
                      clear c95; replace H := Option.bind_eq_some_iff.mp H; obtain ⟨⟨t396, t397⟩, A960, H⟩ := H; replace H : ((spec_MeetingDay.f k6 (t349.length : Int) ((rd_T53 t352 0).f0) ((rd_T53 t352 0).f1) ((rd_T53 t352 0).f2) ((rd_T53 t352 0).f3) ((rd_T53 t352 0).f4) ((rd_T53 t352 0).f5) ((rd_T53 t352 1).f0) ((rd_T53 t352 1).f1) ((rd_T53 t352 1).f2) ((rd_T53 t352 1).f3) ((rd_T53 t352 1).f4) ((rd_T53 t352 1).f5) t393).bind fun bt400 => (if t397 = bt400.2 then (if t396 = bt400.1 then (if t397 = 0 then (laws_FnRepeats.j9 k6 (t349.length : Int) t352 t393 t397 bt400.1 false) else (laws_FnRepeats.j9 k6 (t349.length : Int) t352 t393 t397 bt400.1 (t397 != 6))) else (laws_FnRepeats.j9 k6 (t349.length : Int) t352 t393 t397 bt400.1 true)) else (laws_FnRepeats.j9 k6 (t349.length : Int) t352 t393 t397 bt400.1 true))) = some r := H
                      have A96 := Aside0.mk A960; clear A960; replace H := Option.bind_eq_some_iff.mp H; obtain ⟨⟨t400, t401⟩, A970, H⟩ := H; replace H : (if t397 = t401 then (if t396 = t400 then (if t397 = 0 then (laws_FnRepeats.j9 k6 (t349.length : Int) t352 t393 t397 t400 false) else (laws_FnRepeats.j9 k6 (t349.length : Int) t352 t393 t397 t400 (t397 != 6))) else (laws_FnRepeats.j9 k6 (t349.length : Int) t352 t393 t397 t400 true)) else (laws_FnRepeats.j9 k6 (t349.length : Int) t352 t393 t397 t400 true)) = some r := H
                      have A97 := Aside0.mk A970; clear A970; have HC98 := Aside0.mk H; clear H; try go_wp2_with (first | ((with_reducible refine gate_callee (f := 28) rfl ?_); refine goesL_ (some 334) rfl rfl Try.func28 (by kernel_rfl) rfl #[.slice A1 l1.length c1, .int .i64 20] rfl (by (try simp only [List.map_toArray, List.map_cons, List.map_nil]); first | done | rfl | (simp only [List.length_drop, List.length_take]; rfl)) ?_; (with_reducible refine (spec_P6Pick.calls _ _ l1 20 t393 _ ?side1 ?side2 A93.out).mono ?_); (case side1 => repeat (first | exact (Kd.C_below HR1.out HB.out) | (with_reducible refine Kd.C_alloc ?_ _) | (with_reducible refine Kd.C_drewN ?_ _) | (with_reducible refine Kd.C_drew ?_))); (case side2 => exact HC1.out); rintro e w99 ⟨rfl, hb⟩; refine ⟨_, rfl, ?_⟩; have n0_ := Aside0.mk (Kd.R_below (by (with_reducible repeat (first | apply Kd.R_alloc | apply Kd.R_drewN | apply Kd.R_drew)); exact HO_7.out) hb); have n1_ := Aside0.mk (below_step (by repeat (first | (with_reducible first | exact HB.out | apply below_alloc | apply pw_below_drewN | apply below_drew1) | exact HB.out)) hb); clear HO_7; clear HB; have HO_7 := n0_; have HB := n1_; clear n0_ n1_; (try clear hb); (try clear hb2); (try clear hk); (try clear hi)))
                      have n0_ := Aside0.mk (Kd.R_drew HO_7.out)
                      have n1_ := Aside0.mk (below_drew1 HB.out)
                      clear HO_7; clear HB; have HO_7 := n0_; have HB := n1_; clear n0_ n1_; have p394 : 0 ≤ (0 : Int) := (by omega)
                      have q394 : 0 < (t352.length : Int) := of_decide_eq_true (by first | (with_reducible assumption) | assumption)
                      obtain ⟨ad394, e394, hx394_0, hx394_1, hx394_2, hx394_3, hx394_4, hx394_5⟩ := at_T53 (Kd.R_reads' HO_7.out).2.2 0 p394 q394
                      cases e394
                      have qi394 : (0 < t352.length) = True := eq_true (by omega)
                      (try rw [show ((0 : Int)).toNat = 0 from rfl] at hx394_0)
                      (try rw [show 0 * 6 = 0 from rfl] at hx394_0)
                      (try rw [Addr.add_zero'] at hx394_0)
                      (try rw [show ((0 : Int)).toNat = 0 from rfl] at hx394_1)
                      (try rw [show 0 * 6 = 0 from rfl] at hx394_1)
                      (try rw [Addr.add_zero'] at hx394_1)
                      (try rw [show ((0 : Int)).toNat = 0 from rfl] at hx394_2)
                      (try rw [show 0 * 6 = 0 from rfl] at hx394_2)
                      (try rw [Addr.add_zero'] at hx394_2)
                      (try rw [show ((0 : Int)).toNat = 0 from rfl] at hx394_3)
                      (try rw [show 0 * 6 = 0 from rfl] at hx394_3)
                      (try rw [Addr.add_zero'] at hx394_3)
                      (try rw [show ((0 : Int)).toNat = 0 from rfl] at hx394_4)
                      (try rw [show 0 * 6 = 0 from rfl] at hx394_4)
                      (try rw [Addr.add_zero'] at hx394_4)
                      (try rw [show ((0 : Int)).toNat = 0 from rfl] at hx394_5)
                      (try rw [show 0 * 6 = 0 from rfl] at hx394_5)
                      (try rw [Addr.add_zero'] at hx394_5)
                      replace p394 := eq_true p394
                      replace q394 := eq_true q394
                      have p395 : 0 ≤ (1 : Int) := (by omega)
                      have q395 : 1 < (t352.length : Int) := of_decide_eq_true (by first | (with_reducible assumption) | assumption)
                      obtain ⟨ad395, e395, hx395_0, hx395_1, hx395_2, hx395_3, hx395_4, hx395_5⟩ := at_T53 (Kd.R_reads' HO_7.out).2.2 1 p395 q395
                      obtain rfl : ad394 = ad395 := (by injection e395)
                      (try simp only [show (1 : Int).toNat = 1 from rfl, Nat.reduceMul, Nat.reduceEqDiff, Go.Addr.add, ↓reduceIte] at hx395_0)
                      (try simp only [show (1 : Int).toNat = 1 from rfl, Nat.reduceMul, Nat.reduceEqDiff, Go.Addr.add, ↓reduceIte] at hx395_1)
                      (try simp only [show (1 : Int).toNat = 1 from rfl, Nat.reduceMul, Nat.reduceEqDiff, Go.Addr.add, ↓reduceIte] at hx395_2)
                      (try simp only [show (1 : Int).toNat = 1 from rfl, Nat.reduceMul, Nat.reduceEqDiff, Go.Addr.add, ↓reduceIte] at hx395_3)
                      (try simp only [show (1 : Int).toNat = 1 from rfl, Nat.reduceMul, Nat.reduceEqDiff, Go.Addr.add, ↓reduceIte] at hx395_4)
                      (try simp only [show (1 : Int).toNat = 1 from rfl, Nat.reduceMul, Nat.reduceEqDiff, Go.Addr.add, ↓reduceIte] at hx395_5)
                      have qi395 : (1 < t352.length) = True := eq_true (by omega)
                      (try rw [show ((1 : Int)).toNat = 1 from rfl] at hx395_0)
                      (try rw [show 1 * 6 = 6 from rfl] at hx395_0)
                      (try rw [show ((1 : Int)).toNat = 1 from rfl] at hx395_1)
                      (try rw [show 1 * 6 = 6 from rfl] at hx395_1)
                      (try rw [show ((1 : Int)).toNat = 1 from rfl] at hx395_2)
                      (try rw [show 1 * 6 = 6 from rfl] at hx395_2)
                      (try rw [show ((1 : Int)).toNat = 1 from rfl] at hx395_3)
                      (try rw [show 1 * 6 = 6 from rfl] at hx395_3)
                      (try rw [show ((1 : Int)).toNat = 1 from rfl] at hx395_4)
                      (try rw [show 1 * 6 = 6 from rfl] at hx395_4)
                      (try rw [show ((1 : Int)).toNat = 1 from rfl] at hx395_5)
                      (try rw [show 1 * 6 = 6 from rfl] at hx395_5)
                      replace p395 := eq_true p395
                      replace q395 := eq_true q395
                      refine start_ (n := 14) (S := fun w' => w'.cell? ad394 = some (.int .i16 ((rd_T53 t352 0).f0)) ∧ w'.cell? ⟨ad394.block, ad394.off + 1, none⟩ = some (.int .i16 ((rd_T53 t352 0).f1)) ∧ w'.cell? ⟨ad394.block, ad394.off + 2, none⟩ = some (.int .i16 ((rd_T53 t352 0).f2)) ∧ w'.cell? ⟨ad394.block, ad394.off + 3, none⟩ = some (.int .i16 ((rd_T53 t352 0).f3)) ∧ w'.cell? ⟨ad394.block, ad394.off + 4, none⟩ = some (.int .i16 ((rd_T53 t352 0).f4)) ∧ w'.cell? ⟨ad394.block, ad394.off + 5, none⟩ = some (.int .i8 ((rd_T53 t352 0).f5)) ∧ w'.cell? ⟨ad394.block, ad394.off + 6, none⟩ = some (.int .i16 ((rd_T53 t352 1).f0)) ∧ w'.cell? ⟨ad394.block, ad394.off + 6 + 1, none⟩ = some (.int .i16 ((rd_T53 t352 1).f1)) ∧ w'.cell? ⟨ad394.block, ad394.off + 6 + 2, none⟩ = some (.int .i16 ((rd_T53 t352 1).f2)) ∧ w'.cell? ⟨ad394.block, ad394.off + 6 + 3, none⟩ = some (.int .i16 ((rd_T53 t352 1).f3)) ∧ w'.cell? ⟨ad394.block, ad394.off + 6 + 4, none⟩ = some (.int .i16 ((rd_T53 t352 1).f4)) ∧ w'.cell? ⟨ad394.block, ad394.off + 6 + 5, none⟩ = some (.int .i8 ((rd_T53 t352 1).f5))) (ds := []) #[false, false, false, false, false, false, false, false, false, false, false, false, false, false] (by kernel_rfl) rfl rfl ⟨hx394_0, hx394_1, hx394_2, hx394_3, hx394_4, hx394_5, hx395_0, hx395_1, hx395_2, hx395_3, hx395_4, hx395_5⟩ (fun hHeld => ?_); refine with_tabW laws_FnRepeats.tab54 laws_FnRepeats.bits54 (fun HT_ HW_ => ?_)
                      generalize w99.drew = w100 at HO_7 HB hx394_0 hx394_1 hx394_2 hx394_3 hx394_4 hx394_5 hx395_0 hx395_1 hx395_2 hx395_3 hx395_4 hx395_5 hHeld ⊢
                      refine pure_ (i := 0) (N := some 336) (v := ?_) (a' := ?_) #[true, false, false, false, false, false, false, false, false, false, false, false, false, false] rfl rfl (any_of HT_.out (by kernel_rfl)) (fun _ _ _ h => h) (Or.inl ⟨by rfl, ?_⟩) ?_ ?_
                      rotate_left
                      ·
                       intro w'
                       go_simp
                       with_reducible rfl
                      rotate_left
                      ·
                       simp only [Act.put, List.setIfInBounds_toArray, List.set_cons_zero, List.set_cons_succ, i64_w, i32_w]
                       rfl
                      refine pure_ (i := 1) (N := some 337) (v := ?_) (a' := ?_) #[true, true, false, false, false, false, false, false, false, false, false, false, false, false] rfl rfl (any_of HT_.out (by kernel_rfl)) (fun _ _ _ h => h) (Or.inl ⟨by rfl, ?_⟩) ?_ ?_
                      rotate_left
                      ·
                       intro w'
                       go_simp
                       with_reducible rfl
                      rotate_left
                      ·
                       simp only [Act.put, List.setIfInBounds_toArray, List.set_cons_zero, List.set_cons_succ, i64_w, i32_w]
                       rfl
                      refine pure_ (i := 2) (N := some 338) (v := ?_) (a' := ?_) #[true, true, true, false, false, false, false, false, false, false, false, false, false, false] rfl rfl (any_of HT_.out (by kernel_rfl)) (fun _ _ _ h => h) (Or.inl ⟨by rfl, ?_⟩) ?_ ?_
                      rotate_left
                      ·
                       intro w'
                       go_simp
                       with_reducible rfl
                      rotate_left
                      ·
                       simp only [Act.put, List.setIfInBounds_toArray, List.set_cons_zero, List.set_cons_succ, i64_w, i32_w]
                       rfl
                      refine pure_ (i := 4) (N := some 340) (v := ?_) (a' := ?_) #[true, true, true, false, true, false, false, false, false, false, false, false, false, false] rfl rfl (any_of HT_.out (by kernel_rfl)) (fun _ _ _ h => h) (Or.inl ⟨by rfl, ?_⟩) ?_ ?_
                      rotate_left
                      ·
                       intro w'
                       go_simp
                       with_reducible rfl
                      rotate_left
                      ·
                       simp only [Act.put, List.setIfInBounds_toArray, List.set_cons_zero, List.set_cons_succ, i64_w, i32_w]
                       rfl
                      refine pure_ (i := 5) (N := some 341) (v := ?_) (a' := ?_) #[true, true, true, false, true, true, false, false, false, false, false, false, false, false] rfl rfl (any_of HT_.out (by kernel_rfl)) (fun _ _ _ h => h) (Or.inl ⟨by rfl, ?_⟩) ?_ ?_
                      rotate_left
                      ·
                       intro w'
                       go_simp
                       with_reducible rfl
                      rotate_left
                      ·
                       simp only [Act.put, List.setIfInBounds_toArray, List.set_cons_zero, List.set_cons_succ, i64_w, i32_w]
                       rfl
                      refine pure_ (i := 7) (N := some 343) (v := ?_) (a' := ?_) #[true, true, true, false, true, true, false, true, false, false, false, false, false, false] rfl rfl (any_of HT_.out (by kernel_rfl)) (fun _ _ _ h => h) (Or.inl ⟨by rfl, ?_⟩) ?_ ?_
                      rotate_left
                      ·
                       intro w'
                       go_simp
                       with_reducible rfl
                      rotate_left
                      ·
                       simp only [Act.put, List.setIfInBounds_toArray, List.set_cons_zero, List.set_cons_succ, i64_w, i32_w]
                       rfl
                      refine take_ (i := 3) (N := some 339) (v := ?_) (a' := ?_) #[true, true, true, true, true, true, false, true, false, false, false, false, false, false] rfl rfl (take_ofW HT_.out HW_.out (by kernel_rfl)) (fun _ _ _ h => h) (Or.inl ⟨by rfl, ?_⟩) hHeld ?_ ?_
                      rotate_left
                      ·
                       rintro w' ⟨s0, s1, s2, s3, s4, s5, s6, s7, s8, s9, s10, s11⟩
                       go_simp
                       with_reducible rfl
                      rotate_left
                      ·
                       simp only [Act.put, List.setIfInBounds_toArray, List.set_cons_zero, List.set_cons_succ, i64_w, i32_w]
                       rfl
                      refine take_ (i := 6) (N := some 342) (v := ?_) (a' := ?_) #[true, true, true, true, true, true, true, true, false, false, false, false, false, false] rfl rfl (take_ofW HT_.out HW_.out (by kernel_rfl)) (fun _ _ _ h => h) (Or.inl ⟨by rfl, ?_⟩) hHeld ?_ ?_
                      rotate_left
                      ·
                       rintro w' ⟨s0, s1, s2, s3, s4, s5, s6, s7, s8, s9, s10, s11⟩
                       go_simp
                       with_reducible rfl
                      rotate_left
                      ·
                       simp only [Act.put, List.setIfInBounds_toArray, List.set_cons_zero, List.set_cons_succ, i64_w, i32_w]
                       rfl
                      refine one_ (i := 8) (N := some 344) #[true, true, true, true, true, true, true, true, true, false, false, false, false, false] rfl rfl (one_of HT_.out (by kernel_rfl)) (by decide) (fun K hK => ?_)
                      refine goes_ Try.func58 (by kernel_rfl) rfl #[.int .i64 (t349.length : Int), .agg #[.int .i16 ((rd_T53 t352 0).f0), .int .i16 ((rd_T53 t352 0).f1), .int .i16 ((rd_T53 t352 0).f2), .int .i16 ((rd_T53 t352 0).f3), .int .i16 ((rd_T53 t352 0).f4), .int .i8 ((rd_T53 t352 0).f5)], .agg #[.int .i16 ((rd_T53 t352 1).f0), .int .i16 ((rd_T53 t352 1).f1), .int .i16 ((rd_T53 t352 1).f2), .int .i16 ((rd_T53 t352 1).f3), .int .i16 ((rd_T53 t352 1).f4), .int .i8 ((rd_T53 t352 1).f5)], .int .i64 t393] (by rfl) rfl rfl (by (try simp only [List.map_toArray, List.map_cons, List.map_nil]); first | done | rfl | (simp only [List.length_drop, List.length_take]; rfl)) ?_
                      with_reducible refine (impl_MeetingDay.calls k6 (t349.length : Int) ((rd_T53 t352 0).f0) ((rd_T53 t352 0).f1) ((rd_T53 t352 0).f2) ((rd_T53 t352 0).f3) ((rd_T53 t352 0).f4) ((rd_T53 t352 0).f5) ((rd_T53 t352 1).f0) ((rd_T53 t352 1).f1) ((rd_T53 t352 1).f2) ((rd_T53 t352 1).f3) ((rd_T53 t352 1).f4) ((rd_T53 t352 1).f5) t393 t396 t397 _ A96.out).mono ?_
                      rintro e w101 ⟨rfl, hb⟩
                      have HS0_ := (hb.cell (World.block_lt_of_cell? _ _ (hHeld.1))).trans (hHeld.1)
                      have HS1_ := (hb.cell (World.block_lt_of_cell? _ _ (hHeld.2.1))).trans (hHeld.2.1)
                      have HS2_ := (hb.cell (World.block_lt_of_cell? _ _ (hHeld.2.2.1))).trans (hHeld.2.2.1)
                      have HS3_ := (hb.cell (World.block_lt_of_cell? _ _ (hHeld.2.2.2.1))).trans (hHeld.2.2.2.1)
                      have HS4_ := (hb.cell (World.block_lt_of_cell? _ _ (hHeld.2.2.2.2.1))).trans (hHeld.2.2.2.2.1)
                      have HS5_ := (hb.cell (World.block_lt_of_cell? _ _ (hHeld.2.2.2.2.2.1))).trans (hHeld.2.2.2.2.2.1)
                      have HS6_ := (hb.cell (World.block_lt_of_cell? _ _ (hHeld.2.2.2.2.2.2.1))).trans (hHeld.2.2.2.2.2.2.1)
                      have HS7_ := (hb.cell (World.block_lt_of_cell? _ _ (hHeld.2.2.2.2.2.2.2.1))).trans (hHeld.2.2.2.2.2.2.2.1)
                      have HS8_ := (hb.cell (World.block_lt_of_cell? _ _ (hHeld.2.2.2.2.2.2.2.2.1))).trans (hHeld.2.2.2.2.2.2.2.2.1)
                      have HS9_ := (hb.cell (World.block_lt_of_cell? _ _ (hHeld.2.2.2.2.2.2.2.2.2.1))).trans (hHeld.2.2.2.2.2.2.2.2.2.1)
                      have HS10_ := (hb.cell (World.block_lt_of_cell? _ _ (hHeld.2.2.2.2.2.2.2.2.2.2.1))).trans (hHeld.2.2.2.2.2.2.2.2.2.2.1)
                      have HS11_ := (hb.cell (World.block_lt_of_cell? _ _ (hHeld.2.2.2.2.2.2.2.2.2.2.2))).trans (hHeld.2.2.2.2.2.2.2.2.2.2.2)
                      refine ⟨_, rfl, ?_⟩
                      have n0_ := Aside0.mk (Kd.R_below (by (with_reducible repeat (first | apply Kd.R_alloc | apply Kd.R_drewN | apply Kd.R_drew)); exact HO_7.out) hb)
                      have n1_ := Aside0.mk (below_step (by repeat (first | (with_reducible first | exact HB.out | apply below_alloc | apply pw_below_drewN | apply below_drew1) | exact HB.out)) hb)
                      clear HO_7; clear HB; have HO_7 := n0_; have HB := n1_; clear n0_ n1_; (try clear hb)
                      (try clear hb2)
                      (try clear hk)
                      (try clear hi)
                      refine hK.out _ _ ⟨HS0_, HS1_, HS2_, HS3_, HS4_, HS5_, HS6_, HS7_, HS8_, HS9_, HS10_, HS11_⟩ (fun hHeld => ?_)
                      clear hK K; refine norm_ (a' := ?_) ?_ ?_; rotate_left
                      ·
                       show Act.put _ (some 344) _ = _
                       simp only [Act.put, List.setIfInBounds_toArray, List.set_cons_zero, List.set_cons_succ, i64_w, i32_w]
                       rfl
                      refine pure_ (i := 9) (N := some 335) (v := ?_) (a' := ?_) #[true, true, true, true, true, true, true, true, true, true, false, false, false, false] rfl rfl (any_of HT_.out (by kernel_rfl)) (fun _ _ _ h => h) (Or.inl ⟨by rfl, ?_⟩) ?_ ?_
                      rotate_left
                      ·
                       intro w'
                       go_simp
                       with_reducible rfl
                      rotate_left
                      ·
                       simp only [Act.put, List.setIfInBounds_toArray, List.set_cons_zero, List.set_cons_succ, i64_w, i32_w]
                       rfl
                      refine pure_ (i := 10) (N := some 345) (v := ?_) (a' := ?_) #[true, true, true, true, true, true, true, true, true, true, true, false, false, false] rfl rfl (any_of HT_.out (by kernel_rfl)) (fun _ _ _ h => h) (Or.inl ⟨by rfl, ?_⟩) ?_ ?_
                      rotate_left
                      ·
                       intro w'
                       go_simp
                       with_reducible rfl
                      rotate_left
                      ·
                       simp only [Act.put, List.setIfInBounds_toArray, List.set_cons_zero, List.set_cons_succ, i64_w, i32_w]
                       rfl
                      refine pure_ (i := 11) (N := some 346) (v := ?_) (a' := ?_) #[true, true, true, true, true, true, true, true, true, true, true, true, false, false] rfl rfl (any_of HT_.out (by kernel_rfl)) (fun _ _ _ h => h) (Or.inl ⟨by rfl, ?_⟩) ?_ ?_
                      rotate_left
                      ·
                       intro w'
                       go_simp
                       with_reducible rfl
                      rotate_left
                      ·
                       simp only [Act.put, List.setIfInBounds_toArray, List.set_cons_zero, List.set_cons_succ, i64_w, i32_w]
                       rfl
                      refine pure_ (i := 12) (N := some 42) (v := ?_) (a' := ?_) #[true, true, true, true, true, true, true, true, true, true, true, true, true, false] rfl rfl (any_of HT_.out (by kernel_rfl)) (fun _ _ _ h => h) (Or.inl ⟨by rfl, ?_⟩) ?_ ?_
                      rotate_left
                      ·
                       intro w'
                       go_simp
                       with_reducible rfl
                      rotate_left
                      ·
                       simp only [Act.put, List.setIfInBounds_toArray, List.set_cons_zero, List.set_cons_succ, i64_w, i32_w]
                       rfl
                      refine pure_ (i := 13) (N := some 43) (v := ?_) (a' := ?_) #[true, true, true, true, true, true, true, true, true, true, true, true, true, true] rfl rfl (any_of HT_.out (by kernel_rfl)) (fun _ _ _ h => h) (Or.inl ⟨by rfl, ?_⟩) ?_ ?_
                      rotate_left
                      ·
                       intro w'
                       go_simp
                       with_reducible rfl
                      rotate_left
                      ·
                       simp only [Act.put, List.setIfInBounds_toArray, List.set_cons_zero, List.set_cons_succ, i64_w, i32_w]
                       rfl
                      refine done_ (done_of HT_.out (by kernel_rfl)) ?_
                      try go_wp2
                      have n0_ := Aside0.mk (Kd.R_drew HO_7.out)
                      have n1_ := Aside0.mk (below_drew1 HB.out)
                      clear HO_7; clear HB; have HO_7 := n0_; have HB := n1_; clear n0_ n1_; have p398 : 0 ≤ (0 : Int) := (by omega)
                      have q398 : 0 < (t352.length : Int) := of_decide_eq_true (by first | (with_reducible assumption) | assumption)
                      obtain ⟨ad398, e398, hx398_0, hx398_1, hx398_2, hx398_3, hx398_4, hx398_5⟩ := at_T53 (Kd.R_reads' HO_7.out).2.2 0 p398 q398
                      obtain rfl : ad394 = ad398 := (by injection e398)
                      have qi398 : (0 < t352.length) = True := eq_true (by omega)
                      (try rw [show ((0 : Int)).toNat = 0 from rfl] at hx398_0)
                      (try rw [show 0 * 6 = 0 from rfl] at hx398_0)
                      (try rw [Addr.add_zero'] at hx398_0)
                      (try rw [show ((0 : Int)).toNat = 0 from rfl] at hx398_1)
                      (try rw [show 0 * 6 = 0 from rfl] at hx398_1)
                      (try rw [Addr.add_zero'] at hx398_1)
                      (try rw [show ((0 : Int)).toNat = 0 from rfl] at hx398_2)
                      (try rw [show 0 * 6 = 0 from rfl] at hx398_2)
                      (try rw [Addr.add_zero'] at hx398_2)
                      (try rw [show ((0 : Int)).toNat = 0 from rfl] at hx398_3)
                      (try rw [show 0 * 6 = 0 from rfl] at hx398_3)
                      (try rw [Addr.add_zero'] at hx398_3)
                      (try rw [show ((0 : Int)).toNat = 0 from rfl] at hx398_4)
                      (try rw [show 0 * 6 = 0 from rfl] at hx398_4)
                      (try rw [Addr.add_zero'] at hx398_4)
                      (try rw [show ((0 : Int)).toNat = 0 from rfl] at hx398_5)
                      (try rw [show 0 * 6 = 0 from rfl] at hx398_5)
                      (try rw [Addr.add_zero'] at hx398_5)
                      replace p398 := eq_true p398
                      replace q398 := eq_true q398
                      have p399 : 0 ≤ (1 : Int) := (by omega)
                      have q399 : 1 < (t352.length : Int) := of_decide_eq_true (by first | (with_reducible assumption) | assumption)
                      obtain ⟨ad399, e399, hx399_0, hx399_1, hx399_2, hx399_3, hx399_4, hx399_5⟩ := at_T53 (Kd.R_reads' HO_7.out).2.2 1 p399 q399
                      obtain rfl : ad394 = ad399 := (by injection e399)
                      (try simp only [show (1 : Int).toNat = 1 from rfl, Nat.reduceMul, Nat.reduceEqDiff, Go.Addr.add, ↓reduceIte] at hx399_0)
                      (try simp only [show (1 : Int).toNat = 1 from rfl, Nat.reduceMul, Nat.reduceEqDiff, Go.Addr.add, ↓reduceIte] at hx399_1)
                      (try simp only [show (1 : Int).toNat = 1 from rfl, Nat.reduceMul, Nat.reduceEqDiff, Go.Addr.add, ↓reduceIte] at hx399_2)
                      (try simp only [show (1 : Int).toNat = 1 from rfl, Nat.reduceMul, Nat.reduceEqDiff, Go.Addr.add, ↓reduceIte] at hx399_3)
                      (try simp only [show (1 : Int).toNat = 1 from rfl, Nat.reduceMul, Nat.reduceEqDiff, Go.Addr.add, ↓reduceIte] at hx399_4)
                      (try simp only [show (1 : Int).toNat = 1 from rfl, Nat.reduceMul, Nat.reduceEqDiff, Go.Addr.add, ↓reduceIte] at hx399_5)
                      have qi399 : (1 < t352.length) = True := eq_true (by omega)
                      (try rw [show ((1 : Int)).toNat = 1 from rfl] at hx399_0)
                      (try rw [show 1 * 6 = 6 from rfl] at hx399_0)
                      (try rw [show ((1 : Int)).toNat = 1 from rfl] at hx399_1)
                      (try rw [show 1 * 6 = 6 from rfl] at hx399_1)
                      (try rw [show ((1 : Int)).toNat = 1 from rfl] at hx399_2)
                      (try rw [show 1 * 6 = 6 from rfl] at hx399_2)
                      (try rw [show ((1 : Int)).toNat = 1 from rfl] at hx399_3)
                      (try rw [show 1 * 6 = 6 from rfl] at hx399_3)
                      (try rw [show ((1 : Int)).toNat = 1 from rfl] at hx399_4)
                      (try rw [show 1 * 6 = 6 from rfl] at hx399_4)
                      (try rw [show ((1 : Int)).toNat = 1 from rfl] at hx399_5)
                      (try rw [show 1 * 6 = 6 from rfl] at hx399_5)
                      replace p399 := eq_true p399
                      replace q399 := eq_true q399
                      refine start_ (n := 14) (S := fun w' => w'.cell? ad394 = some (.int .i16 ((rd_T53 t352 0).f0)) ∧ w'.cell? ⟨ad394.block, ad394.off + 1, none⟩ = some (.int .i16 ((rd_T53 t352 0).f1)) ∧ w'.cell? ⟨ad394.block, ad394.off + 2, none⟩ = some (.int .i16 ((rd_T53 t352 0).f2)) ∧ w'.cell? ⟨ad394.block, ad394.off + 3, none⟩ = some (.int .i16 ((rd_T53 t352 0).f3)) ∧ w'.cell? ⟨ad394.block, ad394.off + 4, none⟩ = some (.int .i16 ((rd_T53 t352 0).f4)) ∧ w'.cell? ⟨ad394.block, ad394.off + 5, none⟩ = some (.int .i8 ((rd_T53 t352 0).f5)) ∧ w'.cell? ⟨ad394.block, ad394.off + 6, none⟩ = some (.int .i16 ((rd_T53 t352 1).f0)) ∧ w'.cell? ⟨ad394.block, ad394.off + 6 + 1, none⟩ = some (.int .i16 ((rd_T53 t352 1).f1)) ∧ w'.cell? ⟨ad394.block, ad394.off + 6 + 2, none⟩ = some (.int .i16 ((rd_T53 t352 1).f2)) ∧ w'.cell? ⟨ad394.block, ad394.off + 6 + 3, none⟩ = some (.int .i16 ((rd_T53 t352 1).f3)) ∧ w'.cell? ⟨ad394.block, ad394.off + 6 + 4, none⟩ = some (.int .i16 ((rd_T53 t352 1).f4)) ∧ w'.cell? ⟨ad394.block, ad394.off + 6 + 5, none⟩ = some (.int .i8 ((rd_T53 t352 1).f5))) (ds := []) #[false, false, false, false, false, false, false, false, false, false, false, false, false, false] (by kernel_rfl) rfl rfl ⟨hx398_0, hx398_1, hx398_2, hx398_3, hx398_4, hx398_5, hx399_0, hx399_1, hx399_2, hx399_3, hx399_4, hx399_5⟩ (fun hHeld => ?_); refine with_tabW laws_FnRepeats.tab55 laws_FnRepeats.bits55 (fun HT_ HW_ => ?_)
                      generalize w101.drew = w102 at HO_7 HB hx398_0 hx398_1 hx398_2 hx398_3 hx398_4 hx398_5 hx399_0 hx399_1 hx399_2 hx399_3 hx399_4 hx399_5 hHeld ⊢
                      refine pure_ (i := 0) (N := some 348) (v := ?_) (a' := ?_) #[true, false, false, false, false, false, false, false, false, false, false, false, false, false] rfl rfl (any_of HT_.out (by kernel_rfl)) (fun _ _ _ h => h) (Or.inl ⟨by rfl, ?_⟩) ?_ ?_
                      rotate_left
                      ·
                       intro w'
                       go_simp
                       with_reducible rfl
                      rotate_left
                      ·
                       simp only [Act.put, List.setIfInBounds_toArray, List.set_cons_zero, List.set_cons_succ, i64_w, i32_w]
                       rfl
                      refine pure_ (i := 1) (N := some 349) (v := ?_) (a' := ?_) #[true, true, false, false, false, false, false, false, false, false, false, false, false, false] rfl rfl (any_of HT_.out (by kernel_rfl)) (fun _ _ _ h => h) (Or.inl ⟨by rfl, ?_⟩) ?_ ?_
                      rotate_left
                      ·
                       intro w'
                       go_simp
                       with_reducible rfl
                      rotate_left
                      ·
                       simp only [Act.put, List.setIfInBounds_toArray, List.set_cons_zero, List.set_cons_succ, i64_w, i32_w]
                       rfl
                      refine pure_ (i := 2) (N := some 350) (v := ?_) (a' := ?_) #[true, true, true, false, false, false, false, false, false, false, false, false, false, false] rfl rfl (any_of HT_.out (by kernel_rfl)) (fun _ _ _ h => h) (Or.inl ⟨by rfl, ?_⟩) ?_ ?_
                      rotate_left
                      ·
                       intro w'
                       go_simp
                       with_reducible rfl
                      rotate_left
                      ·
                       simp only [Act.put, List.setIfInBounds_toArray, List.set_cons_zero, List.set_cons_succ, i64_w, i32_w]
                       rfl
                      refine pure_ (i := 4) (N := some 352) (v := ?_) (a' := ?_) #[true, true, true, false, true, false, false, false, false, false, false, false, false, false] rfl rfl (any_of HT_.out (by kernel_rfl)) (fun _ _ _ h => h) (Or.inl ⟨by rfl, ?_⟩) ?_ ?_
                      rotate_left
                      ·
                       intro w'
                       go_simp
                       with_reducible rfl
                      rotate_left
                      ·
                       simp only [Act.put, List.setIfInBounds_toArray, List.set_cons_zero, List.set_cons_succ, i64_w, i32_w]
                       rfl
                      refine pure_ (i := 5) (N := some 353) (v := ?_) (a' := ?_) #[true, true, true, false, true, true, false, false, false, false, false, false, false, false] rfl rfl (any_of HT_.out (by kernel_rfl)) (fun _ _ _ h => h) (Or.inl ⟨by rfl, ?_⟩) ?_ ?_
                      rotate_left
                      ·
                       intro w'
                       go_simp
                       with_reducible rfl
                      rotate_left
                      ·
                       simp only [Act.put, List.setIfInBounds_toArray, List.set_cons_zero, List.set_cons_succ, i64_w, i32_w]
                       rfl
                      refine pure_ (i := 7) (N := some 355) (v := ?_) (a' := ?_) #[true, true, true, false, true, true, false, true, false, false, false, false, false, false] rfl rfl (any_of HT_.out (by kernel_rfl)) (fun _ _ _ h => h) (Or.inl ⟨by rfl, ?_⟩) ?_ ?_
                      rotate_left
                      ·
                       intro w'
                       go_simp
                       with_reducible rfl
                      rotate_left
                      ·
                       simp only [Act.put, List.setIfInBounds_toArray, List.set_cons_zero, List.set_cons_succ, i64_w, i32_w]
                       rfl
                      refine take_ (i := 3) (N := some 351) (v := ?_) (a' := ?_) #[true, true, true, true, true, true, false, true, false, false, false, false, false, false] rfl rfl (take_ofW HT_.out HW_.out (by kernel_rfl)) (fun _ _ _ h => h) (Or.inl ⟨by rfl, ?_⟩) hHeld ?_ ?_
                      rotate_left
                      ·
                       rintro w' ⟨s0, s1, s2, s3, s4, s5, s6, s7, s8, s9, s10, s11⟩
                       go_simp
                       with_reducible rfl
                      rotate_left
                      ·
                       simp only [Act.put, List.setIfInBounds_toArray, List.set_cons_zero, List.set_cons_succ, i64_w, i32_w]
                       rfl
                      refine take_ (i := 6) (N := some 354) (v := ?_) (a' := ?_) #[true, true, true, true, true, true, true, true, false, false, false, false, false, false] rfl rfl (take_ofW HT_.out HW_.out (by kernel_rfl)) (fun _ _ _ h => h) (Or.inl ⟨by rfl, ?_⟩) hHeld ?_ ?_
                      rotate_left
                      ·
                       rintro w' ⟨s0, s1, s2, s3, s4, s5, s6, s7, s8, s9, s10, s11⟩
                       go_simp
                       with_reducible rfl
                      rotate_left
                      ·
                       simp only [Act.put, List.setIfInBounds_toArray, List.set_cons_zero, List.set_cons_succ, i64_w, i32_w]
                       rfl
                      refine one_ (i := 8) (N := some 356) #[true, true, true, true, true, true, true, true, true, false, false, false, false, false] rfl rfl (one_of HT_.out (by kernel_rfl)) (by decide) (fun K hK => ?_)
                      refine goes_ Try.func59 (by kernel_rfl) rfl #[.int .i64 (t349.length : Int), .agg #[.int .i16 ((rd_T53 t352 0).f0), .int .i16 ((rd_T53 t352 0).f1), .int .i16 ((rd_T53 t352 0).f2), .int .i16 ((rd_T53 t352 0).f3), .int .i16 ((rd_T53 t352 0).f4), .int .i8 ((rd_T53 t352 0).f5)], .agg #[.int .i16 ((rd_T53 t352 1).f0), .int .i16 ((rd_T53 t352 1).f1), .int .i16 ((rd_T53 t352 1).f2), .int .i16 ((rd_T53 t352 1).f3), .int .i16 ((rd_T53 t352 1).f4), .int .i8 ((rd_T53 t352 1).f5)], .int .i64 t393] (by rfl) rfl rfl (by (try simp only [List.map_toArray, List.map_cons, List.map_nil]); first | done | rfl | (simp only [List.length_drop, List.length_take]; rfl)) ?_
                      with_reducible refine (spec_MeetingDay.calls k6 (t349.length : Int) ((rd_T53 t352 0).f0) ((rd_T53 t352 0).f1) ((rd_T53 t352 0).f2) ((rd_T53 t352 0).f3) ((rd_T53 t352 0).f4) ((rd_T53 t352 0).f5) ((rd_T53 t352 1).f0) ((rd_T53 t352 1).f1) ((rd_T53 t352 1).f2) ((rd_T53 t352 1).f3) ((rd_T53 t352 1).f4) ((rd_T53 t352 1).f5) t393 t400 t401 _ A97.out).mono ?_
                      rintro e w103 ⟨rfl, hb⟩
                      have HS0_ := (hb.cell (World.block_lt_of_cell? _ _ (hHeld.1))).trans (hHeld.1)
                      have HS1_ := (hb.cell (World.block_lt_of_cell? _ _ (hHeld.2.1))).trans (hHeld.2.1)
                      have HS2_ := (hb.cell (World.block_lt_of_cell? _ _ (hHeld.2.2.1))).trans (hHeld.2.2.1)
                      have HS3_ := (hb.cell (World.block_lt_of_cell? _ _ (hHeld.2.2.2.1))).trans (hHeld.2.2.2.1)
                      have HS4_ := (hb.cell (World.block_lt_of_cell? _ _ (hHeld.2.2.2.2.1))).trans (hHeld.2.2.2.2.1)
                      have HS5_ := (hb.cell (World.block_lt_of_cell? _ _ (hHeld.2.2.2.2.2.1))).trans (hHeld.2.2.2.2.2.1)
                      have HS6_ := (hb.cell (World.block_lt_of_cell? _ _ (hHeld.2.2.2.2.2.2.1))).trans (hHeld.2.2.2.2.2.2.1)
                      have HS7_ := (hb.cell (World.block_lt_of_cell? _ _ (hHeld.2.2.2.2.2.2.2.1))).trans (hHeld.2.2.2.2.2.2.2.1)
                      have HS8_ := (hb.cell (World.block_lt_of_cell? _ _ (hHeld.2.2.2.2.2.2.2.2.1))).trans (hHeld.2.2.2.2.2.2.2.2.1)
                      have HS9_ := (hb.cell (World.block_lt_of_cell? _ _ (hHeld.2.2.2.2.2.2.2.2.2.1))).trans (hHeld.2.2.2.2.2.2.2.2.2.1)
                      have HS10_ := (hb.cell (World.block_lt_of_cell? _ _ (hHeld.2.2.2.2.2.2.2.2.2.2.1))).trans (hHeld.2.2.2.2.2.2.2.2.2.2.1)
                      have HS11_ := (hb.cell (World.block_lt_of_cell? _ _ (hHeld.2.2.2.2.2.2.2.2.2.2.2))).trans (hHeld.2.2.2.2.2.2.2.2.2.2.2)
                      refine ⟨_, rfl, ?_⟩
                      have n0_ := Aside0.mk (Kd.R_below (by (with_reducible repeat (first | apply Kd.R_alloc | apply Kd.R_drewN | apply Kd.R_drew)); exact HO_7.out) hb)
                      have n1_ := Aside0.mk (below_step (by repeat (first | (with_reducible first | exact HB.out | apply below_alloc | apply pw_below_drewN | apply below_drew1) | exact HB.out)) hb)
                      clear HO_7; clear HB; have HO_7 := n0_; have HB := n1_; clear n0_ n1_; (try clear hb)
                      (try clear hb2)
                      (try clear hk)
                      (try clear hi)
                      refine hK.out _ _ ⟨HS0_, HS1_, HS2_, HS3_, HS4_, HS5_, HS6_, HS7_, HS8_, HS9_, HS10_, HS11_⟩ (fun hHeld => ?_)
                      clear hK K; refine norm_ (a' := ?_) ?_ ?_; rotate_left
                      ·
                       show Act.put _ (some 356) _ = _
                       simp only [Act.put, List.setIfInBounds_toArray, List.set_cons_zero, List.set_cons_succ, i64_w, i32_w]
                       rfl
                      refine pure_ (i := 9) (N := some 347) (v := ?_) (a' := ?_) #[true, true, true, true, true, true, true, true, true, true, false, false, false, false] rfl rfl (any_of HT_.out (by kernel_rfl)) (fun _ _ _ h => h) (Or.inl ⟨by rfl, ?_⟩) ?_ ?_
                      rotate_left
                      ·
                       intro w'
                       go_simp
                       with_reducible rfl
                      rotate_left
                      ·
                       simp only [Act.put, List.setIfInBounds_toArray, List.set_cons_zero, List.set_cons_succ, i64_w, i32_w]
                       rfl
                      refine pure_ (i := 10) (N := some 357) (v := ?_) (a' := ?_) #[true, true, true, true, true, true, true, true, true, true, true, false, false, false] rfl rfl (any_of HT_.out (by kernel_rfl)) (fun _ _ _ h => h) (Or.inl ⟨by rfl, ?_⟩) ?_ ?_
                      rotate_left
                      ·
                       intro w'
                       go_simp
                       with_reducible rfl
                      rotate_left
                      ·
                       simp only [Act.put, List.setIfInBounds_toArray, List.set_cons_zero, List.set_cons_succ, i64_w, i32_w]
                       rfl
                      refine pure_ (i := 11) (N := some 358) (v := ?_) (a' := ?_) #[true, true, true, true, true, true, true, true, true, true, true, true, false, false] rfl rfl (any_of HT_.out (by kernel_rfl)) (fun _ _ _ h => h) (Or.inl ⟨by rfl, ?_⟩) ?_ ?_
                      rotate_left
                      ·
                       intro w'
                       go_simp
                       with_reducible rfl
                      rotate_left
                      ·
                       simp only [Act.put, List.setIfInBounds_toArray, List.set_cons_zero, List.set_cons_succ, i64_w, i32_w]
                       rfl
                      refine pure_ (i := 12) (N := some 44) (v := ?_) (a' := ?_) #[true, true, true, true, true, true, true, true, true, true, true, true, true, false] rfl rfl (any_of HT_.out (by kernel_rfl)) (fun _ _ _ h => h) (Or.inl ⟨by rfl, ?_⟩) ?_ ?_
                      rotate_left
                      ·
                       intro w'
                       go_simp
                       with_reducible rfl
                      rotate_left
                      ·
                       simp only [Act.put, List.setIfInBounds_toArray, List.set_cons_zero, List.set_cons_succ, i64_w, i32_w]
                       rfl
                      refine pure_ (i := 13) (N := some 45) (v := ?_) (a' := ?_) #[true, true, true, true, true, true, true, true, true, true, true, true, true, true] rfl rfl (any_of HT_.out (by kernel_rfl)) (fun _ _ _ h => h) (Or.inl ⟨by rfl, ?_⟩) ?_ ?_
                      rotate_left
                      ·
                       intro w'
                       go_simp
                       with_reducible rfl
                      rotate_left
                      ·
                       simp only [Act.put, List.setIfInBounds_toArray, List.set_cons_zero, List.set_cons_succ, i64_w, i32_w]
                       rfl
                      refine done_ (done_of HT_.out (by kernel_rfl)) ?_
                      go_upto_region 56 with (fail)
                      go_cut [374] (fun v374 wc => ∃ (kq : Nat) (x374_97 : Bool), v374 = .bool x374_97 ∧ Aside0 (laws_FnRepeats.j9 kq (t349.length : Int) t352 t393 t397 t400 x374_97 = some r) ∧ Aside0 (kq ≤ k6) ∧ Aside0 (Kd.R k53 53 wc w.heap.size (fun _ => True) (.slice (some ad394) t352.length co18) t352) ∧ Aside0 (Below w.heap.size w wc))
                      case first => as_aux_lemma =>
                       have H := HC98.out; clear HC98; by_cases c104 : t397 = t401
                       ·
                        rw [if_pos c104] at H; have c104b0 : (t397 == t401) = true := beq_iff_eq.mpr c104; have c104b1 : (t397 != t401) = false := bne_eq_false_iff_eq.mpr c104; clear c104; (first | rw [c104b0] | (simp only [i64_w, i32_w]; rw [c104b0]) | skip)
                        by_cases c105 : t396 = t400
                        ·
                         rw [if_pos c105] at H; have c105b0 : (t396 == t400) = true := beq_iff_eq.mpr c105; have c105b1 : (t396 != t400) = false := bne_eq_false_iff_eq.mpr c105; clear c105; by_cases c106 : t397 = 0
                         ·
                          rw [if_pos c106] at H; have c106b0 : (t397 == 0) = true := beq_iff_eq.mpr c106; have c106b1 : (t397 != 0) = false := bne_eq_false_iff_eq.mpr c106; clear c106; have H' := Aside0.mk H; clear H; go_wp2
                          go_meet
                          case rel => exact ⟨_, (false), (by first | rfl | (simp; done) | (simp [*]; done)), H', ⟨by have := HJ2.out; have := HJ13.out; have := HJ35.out; have := HK4.out; have := HJ68.out; have := HK6.out; first | omega | exact Nat.le_refl _⟩, ⟨by (with_reducible repeat (first | apply Kd.R_alloc | apply Kd.R_drewN | apply Kd.R_drew)); exact HO_7.out⟩, ⟨by repeat (first | (with_reducible first | exact HB.out | apply below_alloc | apply pw_below_drewN | apply below_drew1) | exact HB.out)⟩⟩
                         ·
                          rw [if_neg c106] at H; have c106b0 : (t397 == 0) = false := beq_eq_false_iff_ne.mpr c106; have c106b1 : (t397 != 0) = true := bne_iff_ne.mpr c106; have H' := Aside0.mk H; clear H; go_wp2
                          go_meet
                          case rel => exact ⟨_, ((t397 != 6)), (by first | rfl | (simp; done) | (simp [*]; done)), H', ⟨by have := HJ2.out; have := HJ13.out; have := HJ35.out; have := HK4.out; have := HJ68.out; have := HK6.out; first | omega | exact Nat.le_refl _⟩, ⟨by (with_reducible repeat (first | apply Kd.R_alloc | apply Kd.R_drewN | apply Kd.R_drew)); exact HO_7.out⟩, ⟨by repeat (first | (with_reducible first | exact HB.out | apply below_alloc | apply pw_below_drewN | apply below_drew1) | exact HB.out)⟩⟩
                        ·
                         rw [if_neg c105] at H; have c105b0 : (t396 == t400) = false := beq_eq_false_iff_ne.mpr c105; have c105b1 : (t396 != t400) = true := bne_iff_ne.mpr c105; exact absurd (H.trans (congrArg some HT.out)) (laws_FnRepeats.dead_j9 _ _ _ _ _ _)
                       ·
                        rw [if_neg c104] at H; have c104b0 : (t397 == t401) = false := beq_eq_false_iff_ne.mpr c104; have c104b1 : (t397 != t401) = true := bne_iff_ne.mpr c104; (first | rw [c104b0] | (simp only [i64_w, i32_w]; rw [c104b0]) | skip)
                        exact absurd (H.trans (congrArg some HT.out)) (laws_FnRepeats.dead_j9 _ _ _ _ _ _)
                      case rest => as_aux_lemma =>
                       clear HC98; try clear c1
                       try clear c2
                       try clear p2
                       try clear p3
                       try clear q3
                       try clear hx3
                       try clear qi3
                       try clear c5
                       try clear p6
                       try clear c7
                       try clear c8
                       try clear c9
                       try clear c10
                       try clear c28
                       try clear p38
                       try clear q38
                       try clear p39
                       try clear q39
                       try clear hx39
                       try clear qi39
                       try clear c57
                       try clear c58
                       try clear c59
                       try clear p64
                       try clear c76
                       try clear c76b0
                       try clear c77
                       try clear c77b0
                       try clear c78
                       try clear c85
                       try clear c85b0
                       try clear c86
                       try clear c86b0
                       try clear c87
                       try clear c87b0
                       try clear c88
                       try clear c88b0
                       try clear c88b1
                       try clear c89
                       try clear c89b0
                       try clear c89b1
                       try clear c90
                       try clear c90b0
                       try clear c90b1
                       try clear c91
                       try clear c91b0
                       try clear c91b1
                       try clear c92
                       try clear c92b0
                       try clear c92b1
                       try clear c94
                       try clear c94b0
                       try clear c94b1
                       try clear c95
                       try clear c95b0
                       try clear c95b1
                       try clear c104
                       try clear c104b0
                       try clear c104b1
                       try clear c105
                       try clear c105b0
                       try clear c105b1
                       try clear c106
                       try clear c106b0
                       try clear c106b1
                       try clear hx394_0
                       try clear hx394_1
                       try clear hx394_2
                       try clear hx394_3
                       try clear hx394_4
                       try clear hx394_5
                       try clear hx395_0
                       try clear hx395_1
                       try clear hx395_2
                       try clear hx395_3
                       try clear hx395_4
                       try clear hx395_5
                       try clear hx398_0
                       try clear hx398_1
                       try clear hx398_2
                       try clear hx398_3
                       try clear hx398_4
                       try clear hx398_5
                       try clear hx399_0
                       try clear hx399_1
                       try clear hx399_2
                       try clear hx399_3
                       try clear hx399_4
                       try clear hx399_5
                       try clear p389
                       try clear p394
                       try clear p395
                       try clear p398
                       try clear p399
                       try clear q389
                       try clear q394
                       try clear q395
                       try clear q398
                       try clear q399
                       obtain ⟨kq, x374_97, rfl, HA, HJ97, HO_7, HB⟩ := hcut
                       cases kq with
                       | zero => exact absurd HA.out (by simp [laws_FnRepeats.j9])
                       | succ kj97 =>
                        have H := HA.out; clear HA; simp only [laws_FnRepeats.j9] at H
                        by_cases c107 : x374_97 = true
                        ·
                         subst c107; have H1 : (some false) = some r := by rw [if_pos rfl] at H; exact H
                         clear H; have H := H1; clear H1; exact absurd (Option.some.inj (H.trans (congrArg some HT.out))) Bool.false_ne_true
                        ·
                         replace c107 := Bool.eq_false_iff.mpr c107; subst c107; have H1 : (laws_FnRepeats.l4 kj97 (t349.length : Int) t352 t393 t397 t400 t393) = some r := by rw [if_neg (show ¬ (false = true) by decide)] at H; exact H
                         clear H; have H := H1; clear H1; have H' := Aside0.mk H; clear H; go_wp2
                         go_loopg [46] kj97 (fun kq v46 w' => ∃ (x46_8 : Int), v46 = .int .i64 x46_8 ∧ Aside0 (laws_FnRepeats.l4 kq (t349.length : Int) t352 t393 t397 t400 x46_8 = some r) ∧ Aside0 (kq ≤ kj97) ∧ Aside0 (Kd.R k53 53 w' w.heap.size (fun _ => True) (.slice (some ad394) t352.length co18) t352) ∧ Aside0 (Below w.heap.size w w'))
                         case atStart => exact ⟨(t393), (by first | rfl | (simp; done) | (simp [*]; done)), H', ⟨Nat.le_refl _⟩, ⟨by (with_reducible repeat (first | apply Kd.R_alloc | apply Kd.R_drewN | apply Kd.R_drew)); exact HO_7.out⟩, ⟨by repeat (first | (with_reducible first | exact HB.out | apply below_alloc | apply pw_below_drewN | apply below_drew1) | exact HB.out)⟩⟩
                         case round => as_aux_lemma =>
                          clear H'; try clear c1
                          try clear c2
                          try clear p2
                          try clear p3
                          try clear q3
                          try clear hx3
                          try clear qi3
                          try clear c5
                          try clear p6
                          try clear c7
                          try clear c8
                          try clear c9
                          try clear c10
                          try clear c28
                          try clear p38
                          try clear q38
                          try clear p39
                          try clear q39
                          try clear hx39
                          try clear qi39
                          try clear c57
                          try clear c58
                          try clear c59
                          try clear p64
                          try clear c76
                          try clear c76b0
                          try clear c77
                          try clear c77b0
                          try clear c78
                          try clear c85
                          try clear c85b0
                          try clear c86
                          try clear c86b0
                          try clear c87
                          try clear c87b0
                          try clear c88
                          try clear c88b0
                          try clear c88b1
                          try clear c89
                          try clear c89b0
                          try clear c89b1
                          try clear c90
                          try clear c90b0
                          try clear c90b1
                          try clear c91
                          try clear c91b0
                          try clear c91b1
                          try clear c92
                          try clear c92b0
                          try clear c92b1
                          try clear c94
                          try clear c94b0
                          try clear c94b1
                          try clear c95
                          try clear c95b0
                          try clear c95b1
                          try clear c104
                          try clear c104b0
                          try clear c104b1
                          try clear c105
                          try clear c105b0
                          try clear c105b1
                          try clear c106
                          try clear c106b0
                          try clear c106b1
                          try clear c107
                          try clear hx394_0
                          try clear hx394_1
                          try clear hx394_2
                          try clear hx394_3
                          try clear hx394_4
                          try clear hx394_5
                          try clear hx395_0
                          try clear hx395_1
                          try clear hx395_2
                          try clear hx395_3
                          try clear hx395_4
                          try clear hx395_5
                          try clear hx398_0
                          try clear hx398_1
                          try clear hx398_2
                          try clear hx398_3
                          try clear hx398_4
                          try clear hx398_5
                          try clear hx399_0
                          try clear hx399_1
                          try clear hx399_2
                          try clear hx399_3
                          try clear hx399_4
                          try clear hx399_5
                          try clear p2
                          try clear p3
                          try clear p38
                          try clear p389
                          try clear p39
                          try clear p394
                          try clear p395
                          try clear p398
                          try clear p399
                          try clear p6
                          try clear p64
                          try clear q3
                          try clear q38
                          try clear q389
                          try clear q39
                          try clear q394
                          try clear q395
                          try clear q398
                          try clear q399
                          obtain ⟨x46_8, rfl, HA, HK8, HO_7, HB⟩ := hrel
                          cases gk with
                          | zero => exact absurd HA.out (by simp [laws_FnRepeats.l4])
                          | succ k8 =>
                           have H := HA.out; clear HA; simp only [laws_FnRepeats.l4] at H
                           by_cases c108 : x46_8 < (wrap64 (t393 + 60))
                           ·
                            rw [if_pos c108] at H; have c108b0 : decide (x46_8 < (wrap64 (t393 + 60))) = true := decide_eq_true c108
                            clear c108; by_cases c109 : 0 < (t352.length : Int)
                            ·
                             rw [if_pos c109] at H; have c109b0 : decide (0 < (t352.length : Int)) = true := decide_eq_true c109
                             have c109b1 : decide (0 < t352.length) = true := decide_eq_true (by omega)
                             clear c109; replace H := Option.bind_eq_some_iff.mp H; obtain ⟨⟨t403, t404⟩, A1100, H⟩ := H; replace H : (if 1 < (t352.length : Int) then ((spec_WalksOn.f k8 (t349.length : Int) ((rd_T53 t352 1).f0) ((rd_T53 t352 1).f1) ((rd_T53 t352 1).f2) ((rd_T53 t352 1).f3) ((rd_T53 t352 1).f4) ((rd_T53 t352 1).f5) x46_8).bind fun bt406 => (if t404 = 0 then (if bt406.2 = 0 then (if t403 = true then (if bt406.1 = true then (if t397 = 0 then (if x46_8 < t400 then (some false) else (if x46_8 = t400 then (laws_FnRepeats.l4 k8 (t349.length : Int) t352 t393 t397 t400 (wrap64 (x46_8 + 1))) else (laws_FnRepeats.l4 k8 (t349.length : Int) t352 t393 t397 t400 (wrap64 (x46_8 + 1))))) else (some false)) else (if t397 = 0 then (if x46_8 = t400 then (some false) else (laws_FnRepeats.l4 k8 (t349.length : Int) t352 t393 t397 t400 (wrap64 (x46_8 + 1)))) else (laws_FnRepeats.l4 k8 (t349.length : Int) t352 t393 t397 t400 (wrap64 (x46_8 + 1))))) else (if t397 = 0 then (if x46_8 = t400 then (some false) else (laws_FnRepeats.l4 k8 (t349.length : Int) t352 t393 t397 t400 (wrap64 (x46_8 + 1)))) else (laws_FnRepeats.l4 k8 (t349.length : Int) t352 t393 t397 t400 (wrap64 (x46_8 + 1))))) else (some false)) else (some false))) else (none)) = some r := H
                             have A110 := Aside0.mk A1100; clear A1100; by_cases c111 : 1 < (t352.length : Int)
                             ·
                              rw [if_pos c111] at H; have c111b0 : decide (1 < (t352.length : Int)) = true := decide_eq_true c111
                              have c111b1 : decide (1 < t352.length) = true := decide_eq_true (by omega)
                              clear c111; replace H := Option.bind_eq_some_iff.mp H; obtain ⟨⟨t406, t407⟩, A1120, H⟩ := H; replace H : (if t404 = 0 then (if t407 = 0 then (if t403 = true then (if t406 = true then (if t397 = 0 then (if x46_8 < t400 then (some false) else (if x46_8 = t400 then (laws_FnRepeats.l4 k8 (t349.length : Int) t352 t393 t397 t400 (wrap64 (x46_8 + 1))) else (laws_FnRepeats.l4 k8 (t349.length : Int) t352 t393 t397 t400 (wrap64 (x46_8 + 1))))) else (some false)) else (if t397 = 0 then (if x46_8 = t400 then (some false) else (laws_FnRepeats.l4 k8 (t349.length : Int) t352 t393 t397 t400 (wrap64 (x46_8 + 1)))) else (laws_FnRepeats.l4 k8 (t349.length : Int) t352 t393 t397 t400 (wrap64 (x46_8 + 1))))) else (if t397 = 0 then (if x46_8 = t400 then (some false) else (laws_FnRepeats.l4 k8 (t349.length : Int) t352 t393 t397 t400 (wrap64 (x46_8 + 1)))) else (laws_FnRepeats.l4 k8 (t349.length : Int) t352 t393 t397 t400 (wrap64 (x46_8 + 1))))) else (some false)) else (some false)) = some r := H
                              have A112 := Aside0.mk A1120; clear A1120; by_cases c113 : t404 = 0
                              ·
                               rw [if_pos c113] at H; have c113b0 : (t404 == 0) = true := beq_iff_eq.mpr c113; have c113b1 : (t404 != 0) = false := bne_eq_false_iff_eq.mpr c113; clear c113; by_cases c114 : t407 = 0
                               ·
                                rw [if_pos c114] at H; have c114b0 : (t407 == 0) = true := beq_iff_eq.mpr c114; have c114b1 : (t407 != 0) = false := bne_eq_false_iff_eq.mpr c114; clear c114; by_cases c115 : t403 = true
                                ·
                                 subst c115; have H1 : (if t406 = true then (if t397 = 0 then (if x46_8 < t400 then (some false) else (if x46_8 = t400 then (laws_FnRepeats.l4 k8 (t349.length : Int) t352 t393 t397 t400 (wrap64 (x46_8 + 1))) else (laws_FnRepeats.l4 k8 (t349.length : Int) t352 t393 t397 t400 (wrap64 (x46_8 + 1))))) else (some false)) else (if t397 = 0 then (if x46_8 = t400 then (some false) else (laws_FnRepeats.l4 k8 (t349.length : Int) t352 t393 t397 t400 (wrap64 (x46_8 + 1)))) else (laws_FnRepeats.l4 k8 (t349.length : Int) t352 t393 t397 t400 (wrap64 (x46_8 + 1))))) = some r := by rw [if_pos rfl] at H; exact H
                                 clear H; have H := H1; clear H1; by_cases c116 : t406 = true
                                 ·
                                  subst c116; have H1 : (if t397 = 0 then (if x46_8 < t400 then (some false) else (if x46_8 = t400 then (laws_FnRepeats.l4 k8 (t349.length : Int) t352 t393 t397 t400 (wrap64 (x46_8 + 1))) else (laws_FnRepeats.l4 k8 (t349.length : Int) t352 t393 t397 t400 (wrap64 (x46_8 + 1))))) else (some false)) = some r := by rw [if_pos rfl] at H; exact H
                                  clear H; have H := H1; clear H1; by_cases c117 : t397 = 0
                                  ·
                                   rw [if_pos c117] at H; have c117b0 : (t397 == 0) = true := beq_iff_eq.mpr c117; have c117b1 : (t397 != 0) = false := bne_eq_false_iff_eq.mpr c117; clear c117; by_cases c118 : x46_8 < t400
                                   ·
                                    rw [if_pos c118] at H; have c118b0 : decide (x46_8 < t400) = true := decide_eq_true c118
                                    clear c118; exact absurd (Option.some.inj (H.trans (congrArg some HT.out))) Bool.false_ne_true
                                   ·
                                    rw [if_neg c118] at H; have c118b0 : decide (x46_8 < t400) = false := decide_eq_false c118
                                    clear c118; by_cases c121 : x46_8 = t400
                                    ·
                                     rw [if_pos c121] at H; have c121b0 : (x46_8 == t400) = true := beq_iff_eq.mpr c121; have c121b1 : (x46_8 != t400) = false := bne_eq_false_iff_eq.mpr c121; clear c121; have H' := Aside0.mk H; clear H; have p402 : 0 ≤ (0 : Int) := (by omega)
                                     have q402 : 0 < (t352.length : Int) := of_decide_eq_true (by first | (with_reducible assumption) | assumption)
                                     obtain ⟨ad402, e402, hx402_0, hx402_1, hx402_2, hx402_3, hx402_4, hx402_5⟩ := at_T53 (Kd.R_reads' HO_7.out).2.2 0 p402 q402
                                     obtain rfl : ad394 = ad402 := (by injection e402)
                                     have qi402 : (0 < t352.length) = True := eq_true (by omega)
                                     (try rw [show ((0 : Int)).toNat = 0 from rfl] at hx402_0)
                                     (try rw [show 0 * 6 = 0 from rfl] at hx402_0)
                                     (try rw [Addr.add_zero'] at hx402_0)
                                     (try rw [show ((0 : Int)).toNat = 0 from rfl] at hx402_1)
                                     (try rw [show 0 * 6 = 0 from rfl] at hx402_1)
                                     (try rw [Addr.add_zero'] at hx402_1)
                                     (try rw [show ((0 : Int)).toNat = 0 from rfl] at hx402_2)
                                     (try rw [show 0 * 6 = 0 from rfl] at hx402_2)
                                     (try rw [Addr.add_zero'] at hx402_2)
                                     (try rw [show ((0 : Int)).toNat = 0 from rfl] at hx402_3)
                                     (try rw [show 0 * 6 = 0 from rfl] at hx402_3)
                                     (try rw [Addr.add_zero'] at hx402_3)
                                     (try rw [show ((0 : Int)).toNat = 0 from rfl] at hx402_4)
                                     (try rw [show 0 * 6 = 0 from rfl] at hx402_4)
                                     (try rw [Addr.add_zero'] at hx402_4)
                                     (try rw [show ((0 : Int)).toNat = 0 from rfl] at hx402_5)
                                     (try rw [show 0 * 6 = 0 from rfl] at hx402_5)
                                     (try rw [Addr.add_zero'] at hx402_5)
                                     replace p402 := eq_true p402
                                     replace q402 := eq_true q402
                                     go_wp2_with (first | ((with_reducible refine gate_callee (f := 57) rfl ?_); refine goesL_ (some 388) rfl rfl Try.func57 (by kernel_rfl) rfl #[.int .i64 (t349.length : Int), .agg #[.int .i16 ((rd_T53 t352 0).f0), .int .i16 ((rd_T53 t352 0).f1), .int .i16 ((rd_T53 t352 0).f2), .int .i16 ((rd_T53 t352 0).f3), .int .i16 ((rd_T53 t352 0).f4), .int .i8 ((rd_T53 t352 0).f5)], .int .i64 x46_8] rfl (by (try simp only [List.map_toArray, List.map_cons, List.map_nil]); first | done | rfl | (simp only [List.length_drop, List.length_take]; rfl)) ?_; (with_reducible refine (spec_WalksOn.calls k8 (t349.length : Int) ((rd_T53 t352 0).f0) ((rd_T53 t352 0).f1) ((rd_T53 t352 0).f2) ((rd_T53 t352 0).f3) ((rd_T53 t352 0).f4) ((rd_T53 t352 0).f5) x46_8 true t404 _ A110.out).mono ?_); rintro e w122 ⟨rfl, hb⟩; refine ⟨_, rfl, ?_⟩; have n0_ := Aside0.mk (Kd.R_below (by (with_reducible repeat (first | apply Kd.R_alloc | apply Kd.R_drewN | apply Kd.R_drew)); exact HO_7.out) hb); have n1_ := Aside0.mk (below_step (by repeat (first | (with_reducible first | exact HB.out | apply below_alloc | apply pw_below_drewN | apply below_drew1) | exact HB.out)) hb); clear HO_7; clear HB; have HO_7 := n0_; have HB := n1_; clear n0_ n1_; (try clear hb); (try clear hb2); (try clear hk); (try clear hi); have p405 : 0 ≤ (1 : Int) := (by omega); have q405 : 1 < (t352.length : Int) := of_decide_eq_true (by first | (with_reducible assumption) | assumption); obtain ⟨ad405, e405, hx405_0, hx405_1, hx405_2, hx405_3, hx405_4, hx405_5⟩ := at_T53 (Kd.R_reads' HO_7.out).2.2 1 p405 q405; obtain rfl : ad394 = ad405 := (by injection e405); (try simp only [show (1 : Int).toNat = 1 from rfl, Nat.reduceMul, Nat.reduceEqDiff, Go.Addr.add, ↓reduceIte] at hx405_0); (try simp only [show (1 : Int).toNat = 1 from rfl, Nat.reduceMul, Nat.reduceEqDiff, Go.Addr.add, ↓reduceIte] at hx405_1); (try simp only [show (1 : Int).toNat = 1 from rfl, Nat.reduceMul, Nat.reduceEqDiff, Go.Addr.add, ↓reduceIte] at hx405_2); (try simp only [show (1 : Int).toNat = 1 from rfl, Nat.reduceMul, Nat.reduceEqDiff, Go.Addr.add, ↓reduceIte] at hx405_3); (try simp only [show (1 : Int).toNat = 1 from rfl, Nat.reduceMul, Nat.reduceEqDiff, Go.Addr.add, ↓reduceIte] at hx405_4); (try simp only [show (1 : Int).toNat = 1 from rfl, Nat.reduceMul, Nat.reduceEqDiff, Go.Addr.add, ↓reduceIte] at hx405_5); have qi405 : (1 < t352.length) = True := eq_true (by omega); (try rw [show ((1 : Int)).toNat = 1 from rfl] at hx405_0); (try rw [show 1 * 6 = 6 from rfl] at hx405_0); (try rw [show ((1 : Int)).toNat = 1 from rfl] at hx405_1); (try rw [show 1 * 6 = 6 from rfl] at hx405_1); (try rw [show ((1 : Int)).toNat = 1 from rfl] at hx405_2); (try rw [show 1 * 6 = 6 from rfl] at hx405_2); (try rw [show ((1 : Int)).toNat = 1 from rfl] at hx405_3); (try rw [show 1 * 6 = 6 from rfl] at hx405_3); (try rw [show ((1 : Int)).toNat = 1 from rfl] at hx405_4); (try rw [show 1 * 6 = 6 from rfl] at hx405_4); (try rw [show ((1 : Int)).toNat = 1 from rfl] at hx405_5); (try rw [show 1 * 6 = 6 from rfl] at hx405_5); replace p405 := eq_true p405; replace q405 := eq_true q405) | ((with_reducible refine gate_callee (f := 57) rfl ?_); refine goesL_ (some 397) rfl rfl Try.func57 (by kernel_rfl) rfl #[.int .i64 (t349.length : Int), .agg #[.int .i16 ((rd_T53 t352 1).f0), .int .i16 ((rd_T53 t352 1).f1), .int .i16 ((rd_T53 t352 1).f2), .int .i16 ((rd_T53 t352 1).f3), .int .i16 ((rd_T53 t352 1).f4), .int .i8 ((rd_T53 t352 1).f5)], .int .i64 x46_8] rfl (by (try simp only [List.map_toArray, List.map_cons, List.map_nil]); first | done | rfl | (simp only [List.length_drop, List.length_take]; rfl)) ?_; (with_reducible refine (spec_WalksOn.calls k8 (t349.length : Int) ((rd_T53 t352 1).f0) ((rd_T53 t352 1).f1) ((rd_T53 t352 1).f2) ((rd_T53 t352 1).f3) ((rd_T53 t352 1).f4) ((rd_T53 t352 1).f5) x46_8 true t407 _ A112.out).mono ?_); rintro e w123 ⟨rfl, hb⟩; refine ⟨_, rfl, ?_⟩; have n0_ := Aside0.mk (Kd.R_below (by (with_reducible repeat (first | apply Kd.R_alloc | apply Kd.R_drewN | apply Kd.R_drew)); exact HO_7.out) hb); have n1_ := Aside0.mk (below_step (by repeat (first | (with_reducible first | exact HB.out | apply below_alloc | apply pw_below_drewN | apply below_drew1) | exact HB.out)) hb); clear HO_7; clear HB; have HO_7 := n0_; have HB := n1_; clear n0_ n1_; (try clear hb); (try clear hb2); (try clear hk); (try clear hi)))
                                     go_roundg k8
                                     case measure => have := HJ2.out; have := HJ13.out; have := HJ35.out; have := HK4.out; have := HJ68.out; have := HK6.out; have := HJ97.out; have := HK8.out; omega
                                     case rel => exact ⟨(wrap64 (x46_8 + 1)), (by first | rfl | (simp; done) | (simp [*]; done)), H', ⟨by have := HJ2.out; have := HJ13.out; have := HJ35.out; have := HK4.out; have := HJ68.out; have := HK6.out; have := HJ97.out; have := HK8.out; omega⟩, ⟨by (with_reducible repeat (first | apply Kd.R_alloc | apply Kd.R_drewN | apply Kd.R_drew)); exact HO_7.out⟩, ⟨by repeat (first | (with_reducible first | exact HB.out | apply below_alloc | apply pw_below_drewN | apply below_drew1) | exact HB.out)⟩⟩
                                    ·
                                     rw [if_neg c121] at H; have c121b0 : (x46_8 == t400) = false := beq_eq_false_iff_ne.mpr c121; have c121b1 : (x46_8 != t400) = true := bne_iff_ne.mpr c121; have H' := Aside0.mk H; clear H; have p402 : 0 ≤ (0 : Int) := (by omega)
                                     have q402 : 0 < (t352.length : Int) := of_decide_eq_true (by first | (with_reducible assumption) | assumption)
                                     obtain ⟨ad402, e402, hx402_0, hx402_1, hx402_2, hx402_3, hx402_4, hx402_5⟩ := at_T53 (Kd.R_reads' HO_7.out).2.2 0 p402 q402
                                     obtain rfl : ad394 = ad402 := (by injection e402)
                                     have qi402 : (0 < t352.length) = True := eq_true (by omega)
                                     (try rw [show ((0 : Int)).toNat = 0 from rfl] at hx402_0)
                                     (try rw [show 0 * 6 = 0 from rfl] at hx402_0)
                                     (try rw [Addr.add_zero'] at hx402_0)
                                     (try rw [show ((0 : Int)).toNat = 0 from rfl] at hx402_1)
                                     (try rw [show 0 * 6 = 0 from rfl] at hx402_1)
                                     (try rw [Addr.add_zero'] at hx402_1)
                                     (try rw [show ((0 : Int)).toNat = 0 from rfl] at hx402_2)
                                     (try rw [show 0 * 6 = 0 from rfl] at hx402_2)
                                     (try rw [Addr.add_zero'] at hx402_2)
                                     (try rw [show ((0 : Int)).toNat = 0 from rfl] at hx402_3)
                                     (try rw [show 0 * 6 = 0 from rfl] at hx402_3)
                                     (try rw [Addr.add_zero'] at hx402_3)
                                     (try rw [show ((0 : Int)).toNat = 0 from rfl] at hx402_4)
                                     (try rw [show 0 * 6 = 0 from rfl] at hx402_4)
                                     (try rw [Addr.add_zero'] at hx402_4)
                                     (try rw [show ((0 : Int)).toNat = 0 from rfl] at hx402_5)
                                     (try rw [show 0 * 6 = 0 from rfl] at hx402_5)
                                     (try rw [Addr.add_zero'] at hx402_5)
                                     replace p402 := eq_true p402
                                     replace q402 := eq_true q402
                                     go_wp2_with (first | ((with_reducible refine gate_callee (f := 57) rfl ?_); refine goesL_ (some 388) rfl rfl Try.func57 (by kernel_rfl) rfl #[.int .i64 (t349.length : Int), .agg #[.int .i16 ((rd_T53 t352 0).f0), .int .i16 ((rd_T53 t352 0).f1), .int .i16 ((rd_T53 t352 0).f2), .int .i16 ((rd_T53 t352 0).f3), .int .i16 ((rd_T53 t352 0).f4), .int .i8 ((rd_T53 t352 0).f5)], .int .i64 x46_8] rfl (by (try simp only [List.map_toArray, List.map_cons, List.map_nil]); first | done | rfl | (simp only [List.length_drop, List.length_take]; rfl)) ?_; (with_reducible refine (spec_WalksOn.calls k8 (t349.length : Int) ((rd_T53 t352 0).f0) ((rd_T53 t352 0).f1) ((rd_T53 t352 0).f2) ((rd_T53 t352 0).f3) ((rd_T53 t352 0).f4) ((rd_T53 t352 0).f5) x46_8 true t404 _ A110.out).mono ?_); rintro e w124 ⟨rfl, hb⟩; refine ⟨_, rfl, ?_⟩; have n0_ := Aside0.mk (Kd.R_below (by (with_reducible repeat (first | apply Kd.R_alloc | apply Kd.R_drewN | apply Kd.R_drew)); exact HO_7.out) hb); have n1_ := Aside0.mk (below_step (by repeat (first | (with_reducible first | exact HB.out | apply below_alloc | apply pw_below_drewN | apply below_drew1) | exact HB.out)) hb); clear HO_7; clear HB; have HO_7 := n0_; have HB := n1_; clear n0_ n1_; (try clear hb); (try clear hb2); (try clear hk); (try clear hi); have p405 : 0 ≤ (1 : Int) := (by omega); have q405 : 1 < (t352.length : Int) := of_decide_eq_true (by first | (with_reducible assumption) | assumption); obtain ⟨ad405, e405, hx405_0, hx405_1, hx405_2, hx405_3, hx405_4, hx405_5⟩ := at_T53 (Kd.R_reads' HO_7.out).2.2 1 p405 q405; obtain rfl : ad394 = ad405 := (by injection e405); (try simp only [show (1 : Int).toNat = 1 from rfl, Nat.reduceMul, Nat.reduceEqDiff, Go.Addr.add, ↓reduceIte] at hx405_0); (try simp only [show (1 : Int).toNat = 1 from rfl, Nat.reduceMul, Nat.reduceEqDiff, Go.Addr.add, ↓reduceIte] at hx405_1); (try simp only [show (1 : Int).toNat = 1 from rfl, Nat.reduceMul, Nat.reduceEqDiff, Go.Addr.add, ↓reduceIte] at hx405_2); (try simp only [show (1 : Int).toNat = 1 from rfl, Nat.reduceMul, Nat.reduceEqDiff, Go.Addr.add, ↓reduceIte] at hx405_3); (try simp only [show (1 : Int).toNat = 1 from rfl, Nat.reduceMul, Nat.reduceEqDiff, Go.Addr.add, ↓reduceIte] at hx405_4); (try simp only [show (1 : Int).toNat = 1 from rfl, Nat.reduceMul, Nat.reduceEqDiff, Go.Addr.add, ↓reduceIte] at hx405_5); have qi405 : (1 < t352.length) = True := eq_true (by omega); (try rw [show ((1 : Int)).toNat = 1 from rfl] at hx405_0); (try rw [show 1 * 6 = 6 from rfl] at hx405_0); (try rw [show ((1 : Int)).toNat = 1 from rfl] at hx405_1); (try rw [show 1 * 6 = 6 from rfl] at hx405_1); (try rw [show ((1 : Int)).toNat = 1 from rfl] at hx405_2); (try rw [show 1 * 6 = 6 from rfl] at hx405_2); (try rw [show ((1 : Int)).toNat = 1 from rfl] at hx405_3); (try rw [show 1 * 6 = 6 from rfl] at hx405_3); (try rw [show ((1 : Int)).toNat = 1 from rfl] at hx405_4); (try rw [show 1 * 6 = 6 from rfl] at hx405_4); (try rw [show ((1 : Int)).toNat = 1 from rfl] at hx405_5); (try rw [show 1 * 6 = 6 from rfl] at hx405_5); replace p405 := eq_true p405; replace q405 := eq_true q405) | ((with_reducible refine gate_callee (f := 57) rfl ?_); refine goesL_ (some 397) rfl rfl Try.func57 (by kernel_rfl) rfl #[.int .i64 (t349.length : Int), .agg #[.int .i16 ((rd_T53 t352 1).f0), .int .i16 ((rd_T53 t352 1).f1), .int .i16 ((rd_T53 t352 1).f2), .int .i16 ((rd_T53 t352 1).f3), .int .i16 ((rd_T53 t352 1).f4), .int .i8 ((rd_T53 t352 1).f5)], .int .i64 x46_8] rfl (by (try simp only [List.map_toArray, List.map_cons, List.map_nil]); first | done | rfl | (simp only [List.length_drop, List.length_take]; rfl)) ?_; (with_reducible refine (spec_WalksOn.calls k8 (t349.length : Int) ((rd_T53 t352 1).f0) ((rd_T53 t352 1).f1) ((rd_T53 t352 1).f2) ((rd_T53 t352 1).f3) ((rd_T53 t352 1).f4) ((rd_T53 t352 1).f5) x46_8 true t407 _ A112.out).mono ?_); rintro e w125 ⟨rfl, hb⟩; refine ⟨_, rfl, ?_⟩; have n0_ := Aside0.mk (Kd.R_below (by (with_reducible repeat (first | apply Kd.R_alloc | apply Kd.R_drewN | apply Kd.R_drew)); exact HO_7.out) hb); have n1_ := Aside0.mk (below_step (by repeat (first | (with_reducible first | exact HB.out | apply below_alloc | apply pw_below_drewN | apply below_drew1) | exact HB.out)) hb); clear HO_7; clear HB; have HO_7 := n0_; have HB := n1_; clear n0_ n1_; (try clear hb); (try clear hb2); (try clear hk); (try clear hi)))
                                     go_roundg k8
                                     case measure => have := HJ2.out; have := HJ13.out; have := HJ35.out; have := HK4.out; have := HJ68.out; have := HK6.out; have := HJ97.out; have := HK8.out; omega
                                     case rel => exact ⟨(wrap64 (x46_8 + 1)), (by first | rfl | (simp; done) | (simp [*]; done)), H', ⟨by have := HJ2.out; have := HJ13.out; have := HJ35.out; have := HK4.out; have := HJ68.out; have := HK6.out; have := HJ97.out; have := HK8.out; omega⟩, ⟨by (with_reducible repeat (first | apply Kd.R_alloc | apply Kd.R_drewN | apply Kd.R_drew)); exact HO_7.out⟩, ⟨by repeat (first | (with_reducible first | exact HB.out | apply below_alloc | apply pw_below_drewN | apply below_drew1) | exact HB.out)⟩⟩
                                  ·
                                   rw [if_neg c117] at H; have c117b0 : (t397 == 0) = false := beq_eq_false_iff_ne.mpr c117; have c117b1 : (t397 != 0) = true := bne_iff_ne.mpr c117; obtain rfl := Option.some.inj H; have p402 : 0 ≤ (0 : Int) := (by omega)
                                   have q402 : 0 < (t352.length : Int) := of_decide_eq_true (by first | (with_reducible assumption) | assumption)
                                   obtain ⟨ad402, e402, hx402_0, hx402_1, hx402_2, hx402_3, hx402_4, hx402_5⟩ := at_T53 (Kd.R_reads' HO_7.out).2.2 0 p402 q402
                                   obtain rfl : ad394 = ad402 := (by injection e402)
                                   have qi402 : (0 < t352.length) = True := eq_true (by omega)
                                   (try rw [show ((0 : Int)).toNat = 0 from rfl] at hx402_0)
                                   (try rw [show 0 * 6 = 0 from rfl] at hx402_0)
                                   (try rw [Addr.add_zero'] at hx402_0)
                                   (try rw [show ((0 : Int)).toNat = 0 from rfl] at hx402_1)
                                   (try rw [show 0 * 6 = 0 from rfl] at hx402_1)
                                   (try rw [Addr.add_zero'] at hx402_1)
                                   (try rw [show ((0 : Int)).toNat = 0 from rfl] at hx402_2)
                                   (try rw [show 0 * 6 = 0 from rfl] at hx402_2)
                                   (try rw [Addr.add_zero'] at hx402_2)
                                   (try rw [show ((0 : Int)).toNat = 0 from rfl] at hx402_3)
                                   (try rw [show 0 * 6 = 0 from rfl] at hx402_3)
                                   (try rw [Addr.add_zero'] at hx402_3)
                                   (try rw [show ((0 : Int)).toNat = 0 from rfl] at hx402_4)
                                   (try rw [show 0 * 6 = 0 from rfl] at hx402_4)
                                   (try rw [Addr.add_zero'] at hx402_4)
                                   (try rw [show ((0 : Int)).toNat = 0 from rfl] at hx402_5)
                                   (try rw [show 0 * 6 = 0 from rfl] at hx402_5)
                                   (try rw [Addr.add_zero'] at hx402_5)
                                   replace p402 := eq_true p402
                                   replace q402 := eq_true q402
                                   go_wp2_with (first | ((with_reducible refine gate_callee (f := 57) rfl ?_); refine goesL_ (some 388) rfl rfl Try.func57 (by kernel_rfl) rfl #[.int .i64 (t349.length : Int), .agg #[.int .i16 ((rd_T53 t352 0).f0), .int .i16 ((rd_T53 t352 0).f1), .int .i16 ((rd_T53 t352 0).f2), .int .i16 ((rd_T53 t352 0).f3), .int .i16 ((rd_T53 t352 0).f4), .int .i8 ((rd_T53 t352 0).f5)], .int .i64 x46_8] rfl (by (try simp only [List.map_toArray, List.map_cons, List.map_nil]); first | done | rfl | (simp only [List.length_drop, List.length_take]; rfl)) ?_; (with_reducible refine (spec_WalksOn.calls k8 (t349.length : Int) ((rd_T53 t352 0).f0) ((rd_T53 t352 0).f1) ((rd_T53 t352 0).f2) ((rd_T53 t352 0).f3) ((rd_T53 t352 0).f4) ((rd_T53 t352 0).f5) x46_8 true t404 _ A110.out).mono ?_); rintro e w126 ⟨rfl, hb⟩; refine ⟨_, rfl, ?_⟩; have n0_ := Aside0.mk (Kd.R_below (by (with_reducible repeat (first | apply Kd.R_alloc | apply Kd.R_drewN | apply Kd.R_drew)); exact HO_7.out) hb); have n1_ := Aside0.mk (below_step (by repeat (first | (with_reducible first | exact HB.out | apply below_alloc | apply pw_below_drewN | apply below_drew1) | exact HB.out)) hb); clear HO_7; clear HB; have HO_7 := n0_; have HB := n1_; clear n0_ n1_; (try clear hb); (try clear hb2); (try clear hk); (try clear hi); have p405 : 0 ≤ (1 : Int) := (by omega); have q405 : 1 < (t352.length : Int) := of_decide_eq_true (by first | (with_reducible assumption) | assumption); obtain ⟨ad405, e405, hx405_0, hx405_1, hx405_2, hx405_3, hx405_4, hx405_5⟩ := at_T53 (Kd.R_reads' HO_7.out).2.2 1 p405 q405; obtain rfl : ad394 = ad405 := (by injection e405); (try simp only [show (1 : Int).toNat = 1 from rfl, Nat.reduceMul, Nat.reduceEqDiff, Go.Addr.add, ↓reduceIte] at hx405_0); (try simp only [show (1 : Int).toNat = 1 from rfl, Nat.reduceMul, Nat.reduceEqDiff, Go.Addr.add, ↓reduceIte] at hx405_1); (try simp only [show (1 : Int).toNat = 1 from rfl, Nat.reduceMul, Nat.reduceEqDiff, Go.Addr.add, ↓reduceIte] at hx405_2); (try simp only [show (1 : Int).toNat = 1 from rfl, Nat.reduceMul, Nat.reduceEqDiff, Go.Addr.add, ↓reduceIte] at hx405_3); (try simp only [show (1 : Int).toNat = 1 from rfl, Nat.reduceMul, Nat.reduceEqDiff, Go.Addr.add, ↓reduceIte] at hx405_4); (try simp only [show (1 : Int).toNat = 1 from rfl, Nat.reduceMul, Nat.reduceEqDiff, Go.Addr.add, ↓reduceIte] at hx405_5); have qi405 : (1 < t352.length) = True := eq_true (by omega); (try rw [show ((1 : Int)).toNat = 1 from rfl] at hx405_0); (try rw [show 1 * 6 = 6 from rfl] at hx405_0); (try rw [show ((1 : Int)).toNat = 1 from rfl] at hx405_1); (try rw [show 1 * 6 = 6 from rfl] at hx405_1); (try rw [show ((1 : Int)).toNat = 1 from rfl] at hx405_2); (try rw [show 1 * 6 = 6 from rfl] at hx405_2); (try rw [show ((1 : Int)).toNat = 1 from rfl] at hx405_3); (try rw [show 1 * 6 = 6 from rfl] at hx405_3); (try rw [show ((1 : Int)).toNat = 1 from rfl] at hx405_4); (try rw [show 1 * 6 = 6 from rfl] at hx405_4); (try rw [show ((1 : Int)).toNat = 1 from rfl] at hx405_5); (try rw [show 1 * 6 = 6 from rfl] at hx405_5); replace p405 := eq_true p405; replace q405 := eq_true q405) | ((with_reducible refine gate_callee (f := 57) rfl ?_); refine goesL_ (some 397) rfl rfl Try.func57 (by kernel_rfl) rfl #[.int .i64 (t349.length : Int), .agg #[.int .i16 ((rd_T53 t352 1).f0), .int .i16 ((rd_T53 t352 1).f1), .int .i16 ((rd_T53 t352 1).f2), .int .i16 ((rd_T53 t352 1).f3), .int .i16 ((rd_T53 t352 1).f4), .int .i8 ((rd_T53 t352 1).f5)], .int .i64 x46_8] rfl (by (try simp only [List.map_toArray, List.map_cons, List.map_nil]); first | done | rfl | (simp only [List.length_drop, List.length_take]; rfl)) ?_; (with_reducible refine (spec_WalksOn.calls k8 (t349.length : Int) ((rd_T53 t352 1).f0) ((rd_T53 t352 1).f1) ((rd_T53 t352 1).f2) ((rd_T53 t352 1).f3) ((rd_T53 t352 1).f4) ((rd_T53 t352 1).f5) x46_8 true t407 _ A112.out).mono ?_); rintro e w127 ⟨rfl, hb⟩; refine ⟨_, rfl, ?_⟩; have n0_ := Aside0.mk (Kd.R_below (by (with_reducible repeat (first | apply Kd.R_alloc | apply Kd.R_drewN | apply Kd.R_drew)); exact HO_7.out) hb); have n1_ := Aside0.mk (below_step (by repeat (first | (with_reducible first | exact HB.out | apply below_alloc | apply pw_below_drewN | apply below_drew1) | exact HB.out)) hb); clear HO_7; clear HB; have HO_7 := n0_; have HB := n1_; clear n0_ n1_; (try clear hb); (try clear hb2); (try clear hk); (try clear hi)))
                                   go_ret
                                   exact ⟨by first | rfl | (simp [errW_none, errW_some] <;> rfl) | (simp [*, errW_none, errW_some] <;> rfl), by repeat (first | (with_reducible first | exact HB.out | apply below_alloc | apply pw_below_drewN | apply below_drew1) | exact HB.out)⟩
                                 ·
                                  replace c116 := Bool.eq_false_iff.mpr c116; subst c116; have H1 : (if t397 = 0 then (if x46_8 = t400 then (some false) else (laws_FnRepeats.l4 k8 (t349.length : Int) t352 t393 t397 t400 (wrap64 (x46_8 + 1)))) else (laws_FnRepeats.l4 k8 (t349.length : Int) t352 t393 t397 t400 (wrap64 (x46_8 + 1)))) = some r := by rw [if_neg (show ¬ (false = true) by decide)] at H; exact H
                                  clear H; have H := H1; clear H1; by_cases c128 : t397 = 0
                                  ·
                                   rw [if_pos c128] at H; have c128b0 : (t397 == 0) = true := beq_iff_eq.mpr c128; have c128b1 : (t397 != 0) = false := bne_eq_false_iff_eq.mpr c128; clear c128; by_cases c129 : x46_8 = t400
                                   ·
                                    rw [if_pos c129] at H; have c129b0 : (x46_8 == t400) = true := beq_iff_eq.mpr c129; have c129b1 : (x46_8 != t400) = false := bne_eq_false_iff_eq.mpr c129; clear c129; obtain rfl := Option.some.inj H; have p402 : 0 ≤ (0 : Int) := (by omega)
                                    have q402 : 0 < (t352.length : Int) := of_decide_eq_true (by first | (with_reducible assumption) | assumption)
                                    obtain ⟨ad402, e402, hx402_0, hx402_1, hx402_2, hx402_3, hx402_4, hx402_5⟩ := at_T53 (Kd.R_reads' HO_7.out).2.2 0 p402 q402
                                    obtain rfl : ad394 = ad402 := (by injection e402)
                                    have qi402 : (0 < t352.length) = True := eq_true (by omega)
                                    (try rw [show ((0 : Int)).toNat = 0 from rfl] at hx402_0)
                                    (try rw [show 0 * 6 = 0 from rfl] at hx402_0)
                                    (try rw [Addr.add_zero'] at hx402_0)
                                    (try rw [show ((0 : Int)).toNat = 0 from rfl] at hx402_1)
                                    (try rw [show 0 * 6 = 0 from rfl] at hx402_1)
                                    (try rw [Addr.add_zero'] at hx402_1)
                                    (try rw [show ((0 : Int)).toNat = 0 from rfl] at hx402_2)
                                    (try rw [show 0 * 6 = 0 from rfl] at hx402_2)
                                    (try rw [Addr.add_zero'] at hx402_2)
                                    (try rw [show ((0 : Int)).toNat = 0 from rfl] at hx402_3)
                                    (try rw [show 0 * 6 = 0 from rfl] at hx402_3)
                                    (try rw [Addr.add_zero'] at hx402_3)
                                    (try rw [show ((0 : Int)).toNat = 0 from rfl] at hx402_4)
                                    (try rw [show 0 * 6 = 0 from rfl] at hx402_4)
                                    (try rw [Addr.add_zero'] at hx402_4)
                                    (try rw [show ((0 : Int)).toNat = 0 from rfl] at hx402_5)
                                    (try rw [show 0 * 6 = 0 from rfl] at hx402_5)
                                    (try rw [Addr.add_zero'] at hx402_5)
                                    replace p402 := eq_true p402
                                    replace q402 := eq_true q402
                                    go_wp2_with (first | ((with_reducible refine gate_callee (f := 57) rfl ?_); refine goesL_ (some 388) rfl rfl Try.func57 (by kernel_rfl) rfl #[.int .i64 (t349.length : Int), .agg #[.int .i16 ((rd_T53 t352 0).f0), .int .i16 ((rd_T53 t352 0).f1), .int .i16 ((rd_T53 t352 0).f2), .int .i16 ((rd_T53 t352 0).f3), .int .i16 ((rd_T53 t352 0).f4), .int .i8 ((rd_T53 t352 0).f5)], .int .i64 x46_8] rfl (by (try simp only [List.map_toArray, List.map_cons, List.map_nil]); first | done | rfl | (simp only [List.length_drop, List.length_take]; rfl)) ?_; (with_reducible refine (spec_WalksOn.calls k8 (t349.length : Int) ((rd_T53 t352 0).f0) ((rd_T53 t352 0).f1) ((rd_T53 t352 0).f2) ((rd_T53 t352 0).f3) ((rd_T53 t352 0).f4) ((rd_T53 t352 0).f5) x46_8 true t404 _ A110.out).mono ?_); rintro e w130 ⟨rfl, hb⟩; refine ⟨_, rfl, ?_⟩; have n0_ := Aside0.mk (Kd.R_below (by (with_reducible repeat (first | apply Kd.R_alloc | apply Kd.R_drewN | apply Kd.R_drew)); exact HO_7.out) hb); have n1_ := Aside0.mk (below_step (by repeat (first | (with_reducible first | exact HB.out | apply below_alloc | apply pw_below_drewN | apply below_drew1) | exact HB.out)) hb); clear HO_7; clear HB; have HO_7 := n0_; have HB := n1_; clear n0_ n1_; (try clear hb); (try clear hb2); (try clear hk); (try clear hi); have p405 : 0 ≤ (1 : Int) := (by omega); have q405 : 1 < (t352.length : Int) := of_decide_eq_true (by first | (with_reducible assumption) | assumption); obtain ⟨ad405, e405, hx405_0, hx405_1, hx405_2, hx405_3, hx405_4, hx405_5⟩ := at_T53 (Kd.R_reads' HO_7.out).2.2 1 p405 q405; obtain rfl : ad394 = ad405 := (by injection e405); (try simp only [show (1 : Int).toNat = 1 from rfl, Nat.reduceMul, Nat.reduceEqDiff, Go.Addr.add, ↓reduceIte] at hx405_0); (try simp only [show (1 : Int).toNat = 1 from rfl, Nat.reduceMul, Nat.reduceEqDiff, Go.Addr.add, ↓reduceIte] at hx405_1); (try simp only [show (1 : Int).toNat = 1 from rfl, Nat.reduceMul, Nat.reduceEqDiff, Go.Addr.add, ↓reduceIte] at hx405_2); (try simp only [show (1 : Int).toNat = 1 from rfl, Nat.reduceMul, Nat.reduceEqDiff, Go.Addr.add, ↓reduceIte] at hx405_3); (try simp only [show (1 : Int).toNat = 1 from rfl, Nat.reduceMul, Nat.reduceEqDiff, Go.Addr.add, ↓reduceIte] at hx405_4); (try simp only [show (1 : Int).toNat = 1 from rfl, Nat.reduceMul, Nat.reduceEqDiff, Go.Addr.add, ↓reduceIte] at hx405_5); have qi405 : (1 < t352.length) = True := eq_true (by omega); (try rw [show ((1 : Int)).toNat = 1 from rfl] at hx405_0); (try rw [show 1 * 6 = 6 from rfl] at hx405_0); (try rw [show ((1 : Int)).toNat = 1 from rfl] at hx405_1); (try rw [show 1 * 6 = 6 from rfl] at hx405_1); (try rw [show ((1 : Int)).toNat = 1 from rfl] at hx405_2); (try rw [show 1 * 6 = 6 from rfl] at hx405_2); (try rw [show ((1 : Int)).toNat = 1 from rfl] at hx405_3); (try rw [show 1 * 6 = 6 from rfl] at hx405_3); (try rw [show ((1 : Int)).toNat = 1 from rfl] at hx405_4); (try rw [show 1 * 6 = 6 from rfl] at hx405_4); (try rw [show ((1 : Int)).toNat = 1 from rfl] at hx405_5); (try rw [show 1 * 6 = 6 from rfl] at hx405_5); replace p405 := eq_true p405; replace q405 := eq_true q405) | ((with_reducible refine gate_callee (f := 57) rfl ?_); refine goesL_ (some 397) rfl rfl Try.func57 (by kernel_rfl) rfl #[.int .i64 (t349.length : Int), .agg #[.int .i16 ((rd_T53 t352 1).f0), .int .i16 ((rd_T53 t352 1).f1), .int .i16 ((rd_T53 t352 1).f2), .int .i16 ((rd_T53 t352 1).f3), .int .i16 ((rd_T53 t352 1).f4), .int .i8 ((rd_T53 t352 1).f5)], .int .i64 x46_8] rfl (by (try simp only [List.map_toArray, List.map_cons, List.map_nil]); first | done | rfl | (simp only [List.length_drop, List.length_take]; rfl)) ?_; (with_reducible refine (spec_WalksOn.calls k8 (t349.length : Int) ((rd_T53 t352 1).f0) ((rd_T53 t352 1).f1) ((rd_T53 t352 1).f2) ((rd_T53 t352 1).f3) ((rd_T53 t352 1).f4) ((rd_T53 t352 1).f5) x46_8 false t407 _ A112.out).mono ?_); rintro e w131 ⟨rfl, hb⟩; refine ⟨_, rfl, ?_⟩; have n0_ := Aside0.mk (Kd.R_below (by (with_reducible repeat (first | apply Kd.R_alloc | apply Kd.R_drewN | apply Kd.R_drew)); exact HO_7.out) hb); have n1_ := Aside0.mk (below_step (by repeat (first | (with_reducible first | exact HB.out | apply below_alloc | apply pw_below_drewN | apply below_drew1) | exact HB.out)) hb); clear HO_7; clear HB; have HO_7 := n0_; have HB := n1_; clear n0_ n1_; (try clear hb); (try clear hb2); (try clear hk); (try clear hi)))
                                    go_ret
                                    exact ⟨by first | rfl | (simp [errW_none, errW_some] <;> rfl) | (simp [*, errW_none, errW_some] <;> rfl), by repeat (first | (with_reducible first | exact HB.out | apply below_alloc | apply pw_below_drewN | apply below_drew1) | exact HB.out)⟩
                                   ·
                                    rw [if_neg c129] at H; have c129b0 : (x46_8 == t400) = false := beq_eq_false_iff_ne.mpr c129; have c129b1 : (x46_8 != t400) = true := bne_iff_ne.mpr c129; have H' := Aside0.mk H; clear H; have p402 : 0 ≤ (0 : Int) := (by omega)
                                    have q402 : 0 < (t352.length : Int) := of_decide_eq_true (by first | (with_reducible assumption) | assumption)
                                    obtain ⟨ad402, e402, hx402_0, hx402_1, hx402_2, hx402_3, hx402_4, hx402_5⟩ := at_T53 (Kd.R_reads' HO_7.out).2.2 0 p402 q402
                                    obtain rfl : ad394 = ad402 := (by injection e402)
                                    have qi402 : (0 < t352.length) = True := eq_true (by omega)
                                    (try rw [show ((0 : Int)).toNat = 0 from rfl] at hx402_0)
                                    (try rw [show 0 * 6 = 0 from rfl] at hx402_0)
                                    (try rw [Addr.add_zero'] at hx402_0)
                                    (try rw [show ((0 : Int)).toNat = 0 from rfl] at hx402_1)
                                    (try rw [show 0 * 6 = 0 from rfl] at hx402_1)
                                    (try rw [Addr.add_zero'] at hx402_1)
                                    (try rw [show ((0 : Int)).toNat = 0 from rfl] at hx402_2)
                                    (try rw [show 0 * 6 = 0 from rfl] at hx402_2)
                                    (try rw [Addr.add_zero'] at hx402_2)
                                    (try rw [show ((0 : Int)).toNat = 0 from rfl] at hx402_3)
                                    (try rw [show 0 * 6 = 0 from rfl] at hx402_3)
                                    (try rw [Addr.add_zero'] at hx402_3)
                                    (try rw [show ((0 : Int)).toNat = 0 from rfl] at hx402_4)
                                    (try rw [show 0 * 6 = 0 from rfl] at hx402_4)
                                    (try rw [Addr.add_zero'] at hx402_4)
                                    (try rw [show ((0 : Int)).toNat = 0 from rfl] at hx402_5)
                                    (try rw [show 0 * 6 = 0 from rfl] at hx402_5)
                                    (try rw [Addr.add_zero'] at hx402_5)
                                    replace p402 := eq_true p402
                                    replace q402 := eq_true q402
                                    go_wp2_with (first | ((with_reducible refine gate_callee (f := 57) rfl ?_); refine goesL_ (some 388) rfl rfl Try.func57 (by kernel_rfl) rfl #[.int .i64 (t349.length : Int), .agg #[.int .i16 ((rd_T53 t352 0).f0), .int .i16 ((rd_T53 t352 0).f1), .int .i16 ((rd_T53 t352 0).f2), .int .i16 ((rd_T53 t352 0).f3), .int .i16 ((rd_T53 t352 0).f4), .int .i8 ((rd_T53 t352 0).f5)], .int .i64 x46_8] rfl (by (try simp only [List.map_toArray, List.map_cons, List.map_nil]); first | done | rfl | (simp only [List.length_drop, List.length_take]; rfl)) ?_; (with_reducible refine (spec_WalksOn.calls k8 (t349.length : Int) ((rd_T53 t352 0).f0) ((rd_T53 t352 0).f1) ((rd_T53 t352 0).f2) ((rd_T53 t352 0).f3) ((rd_T53 t352 0).f4) ((rd_T53 t352 0).f5) x46_8 true t404 _ A110.out).mono ?_); rintro e w132 ⟨rfl, hb⟩; refine ⟨_, rfl, ?_⟩; have n0_ := Aside0.mk (Kd.R_below (by (with_reducible repeat (first | apply Kd.R_alloc | apply Kd.R_drewN | apply Kd.R_drew)); exact HO_7.out) hb); have n1_ := Aside0.mk (below_step (by repeat (first | (with_reducible first | exact HB.out | apply below_alloc | apply pw_below_drewN | apply below_drew1) | exact HB.out)) hb); clear HO_7; clear HB; have HO_7 := n0_; have HB := n1_; clear n0_ n1_; (try clear hb); (try clear hb2); (try clear hk); (try clear hi); have p405 : 0 ≤ (1 : Int) := (by omega); have q405 : 1 < (t352.length : Int) := of_decide_eq_true (by first | (with_reducible assumption) | assumption); obtain ⟨ad405, e405, hx405_0, hx405_1, hx405_2, hx405_3, hx405_4, hx405_5⟩ := at_T53 (Kd.R_reads' HO_7.out).2.2 1 p405 q405; obtain rfl : ad394 = ad405 := (by injection e405); (try simp only [show (1 : Int).toNat = 1 from rfl, Nat.reduceMul, Nat.reduceEqDiff, Go.Addr.add, ↓reduceIte] at hx405_0); (try simp only [show (1 : Int).toNat = 1 from rfl, Nat.reduceMul, Nat.reduceEqDiff, Go.Addr.add, ↓reduceIte] at hx405_1); (try simp only [show (1 : Int).toNat = 1 from rfl, Nat.reduceMul, Nat.reduceEqDiff, Go.Addr.add, ↓reduceIte] at hx405_2); (try simp only [show (1 : Int).toNat = 1 from rfl, Nat.reduceMul, Nat.reduceEqDiff, Go.Addr.add, ↓reduceIte] at hx405_3); (try simp only [show (1 : Int).toNat = 1 from rfl, Nat.reduceMul, Nat.reduceEqDiff, Go.Addr.add, ↓reduceIte] at hx405_4); (try simp only [show (1 : Int).toNat = 1 from rfl, Nat.reduceMul, Nat.reduceEqDiff, Go.Addr.add, ↓reduceIte] at hx405_5); have qi405 : (1 < t352.length) = True := eq_true (by omega); (try rw [show ((1 : Int)).toNat = 1 from rfl] at hx405_0); (try rw [show 1 * 6 = 6 from rfl] at hx405_0); (try rw [show ((1 : Int)).toNat = 1 from rfl] at hx405_1); (try rw [show 1 * 6 = 6 from rfl] at hx405_1); (try rw [show ((1 : Int)).toNat = 1 from rfl] at hx405_2); (try rw [show 1 * 6 = 6 from rfl] at hx405_2); (try rw [show ((1 : Int)).toNat = 1 from rfl] at hx405_3); (try rw [show 1 * 6 = 6 from rfl] at hx405_3); (try rw [show ((1 : Int)).toNat = 1 from rfl] at hx405_4); (try rw [show 1 * 6 = 6 from rfl] at hx405_4); (try rw [show ((1 : Int)).toNat = 1 from rfl] at hx405_5); (try rw [show 1 * 6 = 6 from rfl] at hx405_5); replace p405 := eq_true p405; replace q405 := eq_true q405) | ((with_reducible refine gate_callee (f := 57) rfl ?_); refine goesL_ (some 397) rfl rfl Try.func57 (by kernel_rfl) rfl #[.int .i64 (t349.length : Int), .agg #[.int .i16 ((rd_T53 t352 1).f0), .int .i16 ((rd_T53 t352 1).f1), .int .i16 ((rd_T53 t352 1).f2), .int .i16 ((rd_T53 t352 1).f3), .int .i16 ((rd_T53 t352 1).f4), .int .i8 ((rd_T53 t352 1).f5)], .int .i64 x46_8] rfl (by (try simp only [List.map_toArray, List.map_cons, List.map_nil]); first | done | rfl | (simp only [List.length_drop, List.length_take]; rfl)) ?_; (with_reducible refine (spec_WalksOn.calls k8 (t349.length : Int) ((rd_T53 t352 1).f0) ((rd_T53 t352 1).f1) ((rd_T53 t352 1).f2) ((rd_T53 t352 1).f3) ((rd_T53 t352 1).f4) ((rd_T53 t352 1).f5) x46_8 false t407 _ A112.out).mono ?_); rintro e w133 ⟨rfl, hb⟩; refine ⟨_, rfl, ?_⟩; have n0_ := Aside0.mk (Kd.R_below (by (with_reducible repeat (first | apply Kd.R_alloc | apply Kd.R_drewN | apply Kd.R_drew)); exact HO_7.out) hb); have n1_ := Aside0.mk (below_step (by repeat (first | (with_reducible first | exact HB.out | apply below_alloc | apply pw_below_drewN | apply below_drew1) | exact HB.out)) hb); clear HO_7; clear HB; have HO_7 := n0_; have HB := n1_; clear n0_ n1_; (try clear hb); (try clear hb2); (try clear hk); (try clear hi)))
                                    go_roundg k8
                                    case measure => have := HJ2.out; have := HJ13.out; have := HJ35.out; have := HK4.out; have := HJ68.out; have := HK6.out; have := HJ97.out; have := HK8.out; omega
                                    case rel => exact ⟨(wrap64 (x46_8 + 1)), (by first | rfl | (simp; done) | (simp [*]; done)), H', ⟨by have := HJ2.out; have := HJ13.out; have := HJ35.out; have := HK4.out; have := HJ68.out; have := HK6.out; have := HJ97.out; have := HK8.out; omega⟩, ⟨by (with_reducible repeat (first | apply Kd.R_alloc | apply Kd.R_drewN | apply Kd.R_drew)); exact HO_7.out⟩, ⟨by repeat (first | (with_reducible first | exact HB.out | apply below_alloc | apply pw_below_drewN | apply below_drew1) | exact HB.out)⟩⟩
                                  ·
                                   rw [if_neg c128] at H; have c128b0 : (t397 == 0) = false := beq_eq_false_iff_ne.mpr c128; have c128b1 : (t397 != 0) = true := bne_iff_ne.mpr c128; have H' := Aside0.mk H; clear H; have p402 : 0 ≤ (0 : Int) := (by omega)
                                   have q402 : 0 < (t352.length : Int) := of_decide_eq_true (by first | (with_reducible assumption) | assumption)
                                   obtain ⟨ad402, e402, hx402_0, hx402_1, hx402_2, hx402_3, hx402_4, hx402_5⟩ := at_T53 (Kd.R_reads' HO_7.out).2.2 0 p402 q402
                                   obtain rfl : ad394 = ad402 := (by injection e402)
                                   have qi402 : (0 < t352.length) = True := eq_true (by omega)
                                   (try rw [show ((0 : Int)).toNat = 0 from rfl] at hx402_0)
                                   (try rw [show 0 * 6 = 0 from rfl] at hx402_0)
                                   (try rw [Addr.add_zero'] at hx402_0)
                                   (try rw [show ((0 : Int)).toNat = 0 from rfl] at hx402_1)
                                   (try rw [show 0 * 6 = 0 from rfl] at hx402_1)
                                   (try rw [Addr.add_zero'] at hx402_1)
                                   (try rw [show ((0 : Int)).toNat = 0 from rfl] at hx402_2)
                                   (try rw [show 0 * 6 = 0 from rfl] at hx402_2)
                                   (try rw [Addr.add_zero'] at hx402_2)
                                   (try rw [show ((0 : Int)).toNat = 0 from rfl] at hx402_3)
                                   (try rw [show 0 * 6 = 0 from rfl] at hx402_3)
                                   (try rw [Addr.add_zero'] at hx402_3)
                                   (try rw [show ((0 : Int)).toNat = 0 from rfl] at hx402_4)
                                   (try rw [show 0 * 6 = 0 from rfl] at hx402_4)
                                   (try rw [Addr.add_zero'] at hx402_4)
                                   (try rw [show ((0 : Int)).toNat = 0 from rfl] at hx402_5)
                                   (try rw [show 0 * 6 = 0 from rfl] at hx402_5)
                                   (try rw [Addr.add_zero'] at hx402_5)
                                   replace p402 := eq_true p402
                                   replace q402 := eq_true q402
                                   go_wp2_with (first | ((with_reducible refine gate_callee (f := 57) rfl ?_); refine goesL_ (some 388) rfl rfl Try.func57 (by kernel_rfl) rfl #[.int .i64 (t349.length : Int), .agg #[.int .i16 ((rd_T53 t352 0).f0), .int .i16 ((rd_T53 t352 0).f1), .int .i16 ((rd_T53 t352 0).f2), .int .i16 ((rd_T53 t352 0).f3), .int .i16 ((rd_T53 t352 0).f4), .int .i8 ((rd_T53 t352 0).f5)], .int .i64 x46_8] rfl (by (try simp only [List.map_toArray, List.map_cons, List.map_nil]); first | done | rfl | (simp only [List.length_drop, List.length_take]; rfl)) ?_; (with_reducible refine (spec_WalksOn.calls k8 (t349.length : Int) ((rd_T53 t352 0).f0) ((rd_T53 t352 0).f1) ((rd_T53 t352 0).f2) ((rd_T53 t352 0).f3) ((rd_T53 t352 0).f4) ((rd_T53 t352 0).f5) x46_8 true t404 _ A110.out).mono ?_); rintro e w134 ⟨rfl, hb⟩; refine ⟨_, rfl, ?_⟩; have n0_ := Aside0.mk (Kd.R_below (by (with_reducible repeat (first | apply Kd.R_alloc | apply Kd.R_drewN | apply Kd.R_drew)); exact HO_7.out) hb); have n1_ := Aside0.mk (below_step (by repeat (first | (with_reducible first | exact HB.out | apply below_alloc | apply pw_below_drewN | apply below_drew1) | exact HB.out)) hb); clear HO_7; clear HB; have HO_7 := n0_; have HB := n1_; clear n0_ n1_; (try clear hb); (try clear hb2); (try clear hk); (try clear hi); have p405 : 0 ≤ (1 : Int) := (by omega); have q405 : 1 < (t352.length : Int) := of_decide_eq_true (by first | (with_reducible assumption) | assumption); obtain ⟨ad405, e405, hx405_0, hx405_1, hx405_2, hx405_3, hx405_4, hx405_5⟩ := at_T53 (Kd.R_reads' HO_7.out).2.2 1 p405 q405; obtain rfl : ad394 = ad405 := (by injection e405); (try simp only [show (1 : Int).toNat = 1 from rfl, Nat.reduceMul, Nat.reduceEqDiff, Go.Addr.add, ↓reduceIte] at hx405_0); (try simp only [show (1 : Int).toNat = 1 from rfl, Nat.reduceMul, Nat.reduceEqDiff, Go.Addr.add, ↓reduceIte] at hx405_1); (try simp only [show (1 : Int).toNat = 1 from rfl, Nat.reduceMul, Nat.reduceEqDiff, Go.Addr.add, ↓reduceIte] at hx405_2); (try simp only [show (1 : Int).toNat = 1 from rfl, Nat.reduceMul, Nat.reduceEqDiff, Go.Addr.add, ↓reduceIte] at hx405_3); (try simp only [show (1 : Int).toNat = 1 from rfl, Nat.reduceMul, Nat.reduceEqDiff, Go.Addr.add, ↓reduceIte] at hx405_4); (try simp only [show (1 : Int).toNat = 1 from rfl, Nat.reduceMul, Nat.reduceEqDiff, Go.Addr.add, ↓reduceIte] at hx405_5); have qi405 : (1 < t352.length) = True := eq_true (by omega); (try rw [show ((1 : Int)).toNat = 1 from rfl] at hx405_0); (try rw [show 1 * 6 = 6 from rfl] at hx405_0); (try rw [show ((1 : Int)).toNat = 1 from rfl] at hx405_1); (try rw [show 1 * 6 = 6 from rfl] at hx405_1); (try rw [show ((1 : Int)).toNat = 1 from rfl] at hx405_2); (try rw [show 1 * 6 = 6 from rfl] at hx405_2); (try rw [show ((1 : Int)).toNat = 1 from rfl] at hx405_3); (try rw [show 1 * 6 = 6 from rfl] at hx405_3); (try rw [show ((1 : Int)).toNat = 1 from rfl] at hx405_4); (try rw [show 1 * 6 = 6 from rfl] at hx405_4); (try rw [show ((1 : Int)).toNat = 1 from rfl] at hx405_5); (try rw [show 1 * 6 = 6 from rfl] at hx405_5); replace p405 := eq_true p405; replace q405 := eq_true q405) | ((with_reducible refine gate_callee (f := 57) rfl ?_); refine goesL_ (some 397) rfl rfl Try.func57 (by kernel_rfl) rfl #[.int .i64 (t349.length : Int), .agg #[.int .i16 ((rd_T53 t352 1).f0), .int .i16 ((rd_T53 t352 1).f1), .int .i16 ((rd_T53 t352 1).f2), .int .i16 ((rd_T53 t352 1).f3), .int .i16 ((rd_T53 t352 1).f4), .int .i8 ((rd_T53 t352 1).f5)], .int .i64 x46_8] rfl (by (try simp only [List.map_toArray, List.map_cons, List.map_nil]); first | done | rfl | (simp only [List.length_drop, List.length_take]; rfl)) ?_; (with_reducible refine (spec_WalksOn.calls k8 (t349.length : Int) ((rd_T53 t352 1).f0) ((rd_T53 t352 1).f1) ((rd_T53 t352 1).f2) ((rd_T53 t352 1).f3) ((rd_T53 t352 1).f4) ((rd_T53 t352 1).f5) x46_8 false t407 _ A112.out).mono ?_); rintro e w135 ⟨rfl, hb⟩; refine ⟨_, rfl, ?_⟩; have n0_ := Aside0.mk (Kd.R_below (by (with_reducible repeat (first | apply Kd.R_alloc | apply Kd.R_drewN | apply Kd.R_drew)); exact HO_7.out) hb); have n1_ := Aside0.mk (below_step (by repeat (first | (with_reducible first | exact HB.out | apply below_alloc | apply pw_below_drewN | apply below_drew1) | exact HB.out)) hb); clear HO_7; clear HB; have HO_7 := n0_; have HB := n1_; clear n0_ n1_; (try clear hb); (try clear hb2); (try clear hk); (try clear hi)))
                                   go_roundg k8
                                   case measure => have := HJ2.out; have := HJ13.out; have := HJ35.out; have := HK4.out; have := HJ68.out; have := HK6.out; have := HJ97.out; have := HK8.out; omega
                                   case rel => exact ⟨(wrap64 (x46_8 + 1)), (by first | rfl | (simp; done) | (simp [*]; done)), H', ⟨by have := HJ2.out; have := HJ13.out; have := HJ35.out; have := HK4.out; have := HJ68.out; have := HK6.out; have := HJ97.out; have := HK8.out; omega⟩, ⟨by (with_reducible repeat (first | apply Kd.R_alloc | apply Kd.R_drewN | apply Kd.R_drew)); exact HO_7.out⟩, ⟨by repeat (first | (with_reducible first | exact HB.out | apply below_alloc | apply pw_below_drewN | apply below_drew1) | exact HB.out)⟩⟩
                                ·
                                 replace c115 := Bool.eq_false_iff.mpr c115; subst c115; have H1 : (if t397 = 0 then (if x46_8 = t400 then (some false) else (laws_FnRepeats.l4 k8 (t349.length : Int) t352 t393 t397 t400 (wrap64 (x46_8 + 1)))) else (laws_FnRepeats.l4 k8 (t349.length : Int) t352 t393 t397 t400 (wrap64 (x46_8 + 1)))) = some r := by rw [if_neg (show ¬ (false = true) by decide)] at H; exact H
                                 clear H; have H := H1; clear H1; by_cases c136 : t397 = 0
                                 ·
                                  rw [if_pos c136] at H; have c136b0 : (t397 == 0) = true := beq_iff_eq.mpr c136; have c136b1 : (t397 != 0) = false := bne_eq_false_iff_eq.mpr c136; clear c136; by_cases c137 : x46_8 = t400
                                  ·
                                   rw [if_pos c137] at H; have c137b0 : (x46_8 == t400) = true := beq_iff_eq.mpr c137; have c137b1 : (x46_8 != t400) = false := bne_eq_false_iff_eq.mpr c137; clear c137; obtain rfl := Option.some.inj H; have p402 : 0 ≤ (0 : Int) := (by omega)
                                   have q402 : 0 < (t352.length : Int) := of_decide_eq_true (by first | (with_reducible assumption) | assumption)
                                   obtain ⟨ad402, e402, hx402_0, hx402_1, hx402_2, hx402_3, hx402_4, hx402_5⟩ := at_T53 (Kd.R_reads' HO_7.out).2.2 0 p402 q402
                                   obtain rfl : ad394 = ad402 := (by injection e402)
                                   have qi402 : (0 < t352.length) = True := eq_true (by omega)
                                   (try rw [show ((0 : Int)).toNat = 0 from rfl] at hx402_0)
                                   (try rw [show 0 * 6 = 0 from rfl] at hx402_0)
                                   (try rw [Addr.add_zero'] at hx402_0)
                                   (try rw [show ((0 : Int)).toNat = 0 from rfl] at hx402_1)
                                   (try rw [show 0 * 6 = 0 from rfl] at hx402_1)
                                   (try rw [Addr.add_zero'] at hx402_1)
                                   (try rw [show ((0 : Int)).toNat = 0 from rfl] at hx402_2)
                                   (try rw [show 0 * 6 = 0 from rfl] at hx402_2)
                                   (try rw [Addr.add_zero'] at hx402_2)
                                   (try rw [show ((0 : Int)).toNat = 0 from rfl] at hx402_3)
                                   (try rw [show 0 * 6 = 0 from rfl] at hx402_3)
                                   (try rw [Addr.add_zero'] at hx402_3)
                                   (try rw [show ((0 : Int)).toNat = 0 from rfl] at hx402_4)
                                   (try rw [show 0 * 6 = 0 from rfl] at hx402_4)
                                   (try rw [Addr.add_zero'] at hx402_4)
                                   (try rw [show ((0 : Int)).toNat = 0 from rfl] at hx402_5)
                                   (try rw [show 0 * 6 = 0 from rfl] at hx402_5)
                                   (try rw [Addr.add_zero'] at hx402_5)
                                   replace p402 := eq_true p402
                                   replace q402 := eq_true q402
                                   go_wp2_with (first | ((with_reducible refine gate_callee (f := 57) rfl ?_); refine goesL_ (some 388) rfl rfl Try.func57 (by kernel_rfl) rfl #[.int .i64 (t349.length : Int), .agg #[.int .i16 ((rd_T53 t352 0).f0), .int .i16 ((rd_T53 t352 0).f1), .int .i16 ((rd_T53 t352 0).f2), .int .i16 ((rd_T53 t352 0).f3), .int .i16 ((rd_T53 t352 0).f4), .int .i8 ((rd_T53 t352 0).f5)], .int .i64 x46_8] rfl (by (try simp only [List.map_toArray, List.map_cons, List.map_nil]); first | done | rfl | (simp only [List.length_drop, List.length_take]; rfl)) ?_; (with_reducible refine (spec_WalksOn.calls k8 (t349.length : Int) ((rd_T53 t352 0).f0) ((rd_T53 t352 0).f1) ((rd_T53 t352 0).f2) ((rd_T53 t352 0).f3) ((rd_T53 t352 0).f4) ((rd_T53 t352 0).f5) x46_8 false t404 _ A110.out).mono ?_); rintro e w138 ⟨rfl, hb⟩; refine ⟨_, rfl, ?_⟩; have n0_ := Aside0.mk (Kd.R_below (by (with_reducible repeat (first | apply Kd.R_alloc | apply Kd.R_drewN | apply Kd.R_drew)); exact HO_7.out) hb); have n1_ := Aside0.mk (below_step (by repeat (first | (with_reducible first | exact HB.out | apply below_alloc | apply pw_below_drewN | apply below_drew1) | exact HB.out)) hb); clear HO_7; clear HB; have HO_7 := n0_; have HB := n1_; clear n0_ n1_; (try clear hb); (try clear hb2); (try clear hk); (try clear hi); have p405 : 0 ≤ (1 : Int) := (by omega); have q405 : 1 < (t352.length : Int) := of_decide_eq_true (by first | (with_reducible assumption) | assumption); obtain ⟨ad405, e405, hx405_0, hx405_1, hx405_2, hx405_3, hx405_4, hx405_5⟩ := at_T53 (Kd.R_reads' HO_7.out).2.2 1 p405 q405; obtain rfl : ad394 = ad405 := (by injection e405); (try simp only [show (1 : Int).toNat = 1 from rfl, Nat.reduceMul, Nat.reduceEqDiff, Go.Addr.add, ↓reduceIte] at hx405_0); (try simp only [show (1 : Int).toNat = 1 from rfl, Nat.reduceMul, Nat.reduceEqDiff, Go.Addr.add, ↓reduceIte] at hx405_1); (try simp only [show (1 : Int).toNat = 1 from rfl, Nat.reduceMul, Nat.reduceEqDiff, Go.Addr.add, ↓reduceIte] at hx405_2); (try simp only [show (1 : Int).toNat = 1 from rfl, Nat.reduceMul, Nat.reduceEqDiff, Go.Addr.add, ↓reduceIte] at hx405_3); (try simp only [show (1 : Int).toNat = 1 from rfl, Nat.reduceMul, Nat.reduceEqDiff, Go.Addr.add, ↓reduceIte] at hx405_4); (try simp only [show (1 : Int).toNat = 1 from rfl, Nat.reduceMul, Nat.reduceEqDiff, Go.Addr.add, ↓reduceIte] at hx405_5); have qi405 : (1 < t352.length) = True := eq_true (by omega); (try rw [show ((1 : Int)).toNat = 1 from rfl] at hx405_0); (try rw [show 1 * 6 = 6 from rfl] at hx405_0); (try rw [show ((1 : Int)).toNat = 1 from rfl] at hx405_1); (try rw [show 1 * 6 = 6 from rfl] at hx405_1); (try rw [show ((1 : Int)).toNat = 1 from rfl] at hx405_2); (try rw [show 1 * 6 = 6 from rfl] at hx405_2); (try rw [show ((1 : Int)).toNat = 1 from rfl] at hx405_3); (try rw [show 1 * 6 = 6 from rfl] at hx405_3); (try rw [show ((1 : Int)).toNat = 1 from rfl] at hx405_4); (try rw [show 1 * 6 = 6 from rfl] at hx405_4); (try rw [show ((1 : Int)).toNat = 1 from rfl] at hx405_5); (try rw [show 1 * 6 = 6 from rfl] at hx405_5); replace p405 := eq_true p405; replace q405 := eq_true q405) | ((with_reducible refine gate_callee (f := 57) rfl ?_); refine goesL_ (some 397) rfl rfl Try.func57 (by kernel_rfl) rfl #[.int .i64 (t349.length : Int), .agg #[.int .i16 ((rd_T53 t352 1).f0), .int .i16 ((rd_T53 t352 1).f1), .int .i16 ((rd_T53 t352 1).f2), .int .i16 ((rd_T53 t352 1).f3), .int .i16 ((rd_T53 t352 1).f4), .int .i8 ((rd_T53 t352 1).f5)], .int .i64 x46_8] rfl (by (try simp only [List.map_toArray, List.map_cons, List.map_nil]); first | done | rfl | (simp only [List.length_drop, List.length_take]; rfl)) ?_; (with_reducible refine (spec_WalksOn.calls k8 (t349.length : Int) ((rd_T53 t352 1).f0) ((rd_T53 t352 1).f1) ((rd_T53 t352 1).f2) ((rd_T53 t352 1).f3) ((rd_T53 t352 1).f4) ((rd_T53 t352 1).f5) x46_8 t406 t407 _ A112.out).mono ?_); rintro e w139 ⟨rfl, hb⟩; refine ⟨_, rfl, ?_⟩; have n0_ := Aside0.mk (Kd.R_below (by (with_reducible repeat (first | apply Kd.R_alloc | apply Kd.R_drewN | apply Kd.R_drew)); exact HO_7.out) hb); have n1_ := Aside0.mk (below_step (by repeat (first | (with_reducible first | exact HB.out | apply below_alloc | apply pw_below_drewN | apply below_drew1) | exact HB.out)) hb); clear HO_7; clear HB; have HO_7 := n0_; have HB := n1_; clear n0_ n1_; (try clear hb); (try clear hb2); (try clear hk); (try clear hi)))
                                   go_ret
                                   exact ⟨by first | rfl | (simp [errW_none, errW_some] <;> rfl) | (simp [*, errW_none, errW_some] <;> rfl), by repeat (first | (with_reducible first | exact HB.out | apply below_alloc | apply pw_below_drewN | apply below_drew1) | exact HB.out)⟩
                                  ·
                                   rw [if_neg c137] at H; have c137b0 : (x46_8 == t400) = false := beq_eq_false_iff_ne.mpr c137; have c137b1 : (x46_8 != t400) = true := bne_iff_ne.mpr c137; have H' := Aside0.mk H; clear H; have p402 : 0 ≤ (0 : Int) := (by omega)
                                   have q402 : 0 < (t352.length : Int) := of_decide_eq_true (by first | (with_reducible assumption) | assumption)
                                   obtain ⟨ad402, e402, hx402_0, hx402_1, hx402_2, hx402_3, hx402_4, hx402_5⟩ := at_T53 (Kd.R_reads' HO_7.out).2.2 0 p402 q402
                                   obtain rfl : ad394 = ad402 := (by injection e402)
                                   have qi402 : (0 < t352.length) = True := eq_true (by omega)
                                   (try rw [show ((0 : Int)).toNat = 0 from rfl] at hx402_0)
                                   (try rw [show 0 * 6 = 0 from rfl] at hx402_0)
                                   (try rw [Addr.add_zero'] at hx402_0)
                                   (try rw [show ((0 : Int)).toNat = 0 from rfl] at hx402_1)
                                   (try rw [show 0 * 6 = 0 from rfl] at hx402_1)
                                   (try rw [Addr.add_zero'] at hx402_1)
                                   (try rw [show ((0 : Int)).toNat = 0 from rfl] at hx402_2)
                                   (try rw [show 0 * 6 = 0 from rfl] at hx402_2)
                                   (try rw [Addr.add_zero'] at hx402_2)
                                   (try rw [show ((0 : Int)).toNat = 0 from rfl] at hx402_3)
                                   (try rw [show 0 * 6 = 0 from rfl] at hx402_3)
                                   (try rw [Addr.add_zero'] at hx402_3)
                                   (try rw [show ((0 : Int)).toNat = 0 from rfl] at hx402_4)
                                   (try rw [show 0 * 6 = 0 from rfl] at hx402_4)
                                   (try rw [Addr.add_zero'] at hx402_4)
                                   (try rw [show ((0 : Int)).toNat = 0 from rfl] at hx402_5)
                                   (try rw [show 0 * 6 = 0 from rfl] at hx402_5)
                                   (try rw [Addr.add_zero'] at hx402_5)
                                   replace p402 := eq_true p402
                                   replace q402 := eq_true q402
                                   go_wp2_with (first | ((with_reducible refine gate_callee (f := 57) rfl ?_); refine goesL_ (some 388) rfl rfl Try.func57 (by kernel_rfl) rfl #[.int .i64 (t349.length : Int), .agg #[.int .i16 ((rd_T53 t352 0).f0), .int .i16 ((rd_T53 t352 0).f1), .int .i16 ((rd_T53 t352 0).f2), .int .i16 ((rd_T53 t352 0).f3), .int .i16 ((rd_T53 t352 0).f4), .int .i8 ((rd_T53 t352 0).f5)], .int .i64 x46_8] rfl (by (try simp only [List.map_toArray, List.map_cons, List.map_nil]); first | done | rfl | (simp only [List.length_drop, List.length_take]; rfl)) ?_; (with_reducible refine (spec_WalksOn.calls k8 (t349.length : Int) ((rd_T53 t352 0).f0) ((rd_T53 t352 0).f1) ((rd_T53 t352 0).f2) ((rd_T53 t352 0).f3) ((rd_T53 t352 0).f4) ((rd_T53 t352 0).f5) x46_8 false t404 _ A110.out).mono ?_); rintro e w140 ⟨rfl, hb⟩; refine ⟨_, rfl, ?_⟩; have n0_ := Aside0.mk (Kd.R_below (by (with_reducible repeat (first | apply Kd.R_alloc | apply Kd.R_drewN | apply Kd.R_drew)); exact HO_7.out) hb); have n1_ := Aside0.mk (below_step (by repeat (first | (with_reducible first | exact HB.out | apply below_alloc | apply pw_below_drewN | apply below_drew1) | exact HB.out)) hb); clear HO_7; clear HB; have HO_7 := n0_; have HB := n1_; clear n0_ n1_; (try clear hb); (try clear hb2); (try clear hk); (try clear hi); have p405 : 0 ≤ (1 : Int) := (by omega); have q405 : 1 < (t352.length : Int) := of_decide_eq_true (by first | (with_reducible assumption) | assumption); obtain ⟨ad405, e405, hx405_0, hx405_1, hx405_2, hx405_3, hx405_4, hx405_5⟩ := at_T53 (Kd.R_reads' HO_7.out).2.2 1 p405 q405; obtain rfl : ad394 = ad405 := (by injection e405); (try simp only [show (1 : Int).toNat = 1 from rfl, Nat.reduceMul, Nat.reduceEqDiff, Go.Addr.add, ↓reduceIte] at hx405_0); (try simp only [show (1 : Int).toNat = 1 from rfl, Nat.reduceMul, Nat.reduceEqDiff, Go.Addr.add, ↓reduceIte] at hx405_1); (try simp only [show (1 : Int).toNat = 1 from rfl, Nat.reduceMul, Nat.reduceEqDiff, Go.Addr.add, ↓reduceIte] at hx405_2); (try simp only [show (1 : Int).toNat = 1 from rfl, Nat.reduceMul, Nat.reduceEqDiff, Go.Addr.add, ↓reduceIte] at hx405_3); (try simp only [show (1 : Int).toNat = 1 from rfl, Nat.reduceMul, Nat.reduceEqDiff, Go.Addr.add, ↓reduceIte] at hx405_4); (try simp only [show (1 : Int).toNat = 1 from rfl, Nat.reduceMul, Nat.reduceEqDiff, Go.Addr.add, ↓reduceIte] at hx405_5); have qi405 : (1 < t352.length) = True := eq_true (by omega); (try rw [show ((1 : Int)).toNat = 1 from rfl] at hx405_0); (try rw [show 1 * 6 = 6 from rfl] at hx405_0); (try rw [show ((1 : Int)).toNat = 1 from rfl] at hx405_1); (try rw [show 1 * 6 = 6 from rfl] at hx405_1); (try rw [show ((1 : Int)).toNat = 1 from rfl] at hx405_2); (try rw [show 1 * 6 = 6 from rfl] at hx405_2); (try rw [show ((1 : Int)).toNat = 1 from rfl] at hx405_3); (try rw [show 1 * 6 = 6 from rfl] at hx405_3); (try rw [show ((1 : Int)).toNat = 1 from rfl] at hx405_4); (try rw [show 1 * 6 = 6 from rfl] at hx405_4); (try rw [show ((1 : Int)).toNat = 1 from rfl] at hx405_5); (try rw [show 1 * 6 = 6 from rfl] at hx405_5); replace p405 := eq_true p405; replace q405 := eq_true q405) | ((with_reducible refine gate_callee (f := 57) rfl ?_); refine goesL_ (some 397) rfl rfl Try.func57 (by kernel_rfl) rfl #[.int .i64 (t349.length : Int), .agg #[.int .i16 ((rd_T53 t352 1).f0), .int .i16 ((rd_T53 t352 1).f1), .int .i16 ((rd_T53 t352 1).f2), .int .i16 ((rd_T53 t352 1).f3), .int .i16 ((rd_T53 t352 1).f4), .int .i8 ((rd_T53 t352 1).f5)], .int .i64 x46_8] rfl (by (try simp only [List.map_toArray, List.map_cons, List.map_nil]); first | done | rfl | (simp only [List.length_drop, List.length_take]; rfl)) ?_; (with_reducible refine (spec_WalksOn.calls k8 (t349.length : Int) ((rd_T53 t352 1).f0) ((rd_T53 t352 1).f1) ((rd_T53 t352 1).f2) ((rd_T53 t352 1).f3) ((rd_T53 t352 1).f4) ((rd_T53 t352 1).f5) x46_8 t406 t407 _ A112.out).mono ?_); rintro e w141 ⟨rfl, hb⟩; refine ⟨_, rfl, ?_⟩; have n0_ := Aside0.mk (Kd.R_below (by (with_reducible repeat (first | apply Kd.R_alloc | apply Kd.R_drewN | apply Kd.R_drew)); exact HO_7.out) hb); have n1_ := Aside0.mk (below_step (by repeat (first | (with_reducible first | exact HB.out | apply below_alloc | apply pw_below_drewN | apply below_drew1) | exact HB.out)) hb); clear HO_7; clear HB; have HO_7 := n0_; have HB := n1_; clear n0_ n1_; (try clear hb); (try clear hb2); (try clear hk); (try clear hi)))
                                   go_roundg k8
                                   case measure => have := HJ2.out; have := HJ13.out; have := HJ35.out; have := HK4.out; have := HJ68.out; have := HK6.out; have := HJ97.out; have := HK8.out; omega
                                   case rel => exact ⟨(wrap64 (x46_8 + 1)), (by first | rfl | (simp; done) | (simp [*]; done)), H', ⟨by have := HJ2.out; have := HJ13.out; have := HJ35.out; have := HK4.out; have := HJ68.out; have := HK6.out; have := HJ97.out; have := HK8.out; omega⟩, ⟨by (with_reducible repeat (first | apply Kd.R_alloc | apply Kd.R_drewN | apply Kd.R_drew)); exact HO_7.out⟩, ⟨by repeat (first | (with_reducible first | exact HB.out | apply below_alloc | apply pw_below_drewN | apply below_drew1) | exact HB.out)⟩⟩
                                 ·
                                  rw [if_neg c136] at H; have c136b0 : (t397 == 0) = false := beq_eq_false_iff_ne.mpr c136; have c136b1 : (t397 != 0) = true := bne_iff_ne.mpr c136; have H' := Aside0.mk H; clear H; have p402 : 0 ≤ (0 : Int) := (by omega)
                                  have q402 : 0 < (t352.length : Int) := of_decide_eq_true (by first | (with_reducible assumption) | assumption)
                                  obtain ⟨ad402, e402, hx402_0, hx402_1, hx402_2, hx402_3, hx402_4, hx402_5⟩ := at_T53 (Kd.R_reads' HO_7.out).2.2 0 p402 q402
                                  obtain rfl : ad394 = ad402 := (by injection e402)
                                  have qi402 : (0 < t352.length) = True := eq_true (by omega)
                                  (try rw [show ((0 : Int)).toNat = 0 from rfl] at hx402_0)
                                  (try rw [show 0 * 6 = 0 from rfl] at hx402_0)
                                  (try rw [Addr.add_zero'] at hx402_0)
                                  (try rw [show ((0 : Int)).toNat = 0 from rfl] at hx402_1)
                                  (try rw [show 0 * 6 = 0 from rfl] at hx402_1)
                                  (try rw [Addr.add_zero'] at hx402_1)
                                  (try rw [show ((0 : Int)).toNat = 0 from rfl] at hx402_2)
                                  (try rw [show 0 * 6 = 0 from rfl] at hx402_2)
                                  (try rw [Addr.add_zero'] at hx402_2)
                                  (try rw [show ((0 : Int)).toNat = 0 from rfl] at hx402_3)
                                  (try rw [show 0 * 6 = 0 from rfl] at hx402_3)
                                  (try rw [Addr.add_zero'] at hx402_3)
                                  (try rw [show ((0 : Int)).toNat = 0 from rfl] at hx402_4)
                                  (try rw [show 0 * 6 = 0 from rfl] at hx402_4)
                                  (try rw [Addr.add_zero'] at hx402_4)
                                  (try rw [show ((0 : Int)).toNat = 0 from rfl] at hx402_5)
                                  (try rw [show 0 * 6 = 0 from rfl] at hx402_5)
                                  (try rw [Addr.add_zero'] at hx402_5)
                                  replace p402 := eq_true p402
                                  replace q402 := eq_true q402
                                  go_wp2_with (first | ((with_reducible refine gate_callee (f := 57) rfl ?_); refine goesL_ (some 388) rfl rfl Try.func57 (by kernel_rfl) rfl #[.int .i64 (t349.length : Int), .agg #[.int .i16 ((rd_T53 t352 0).f0), .int .i16 ((rd_T53 t352 0).f1), .int .i16 ((rd_T53 t352 0).f2), .int .i16 ((rd_T53 t352 0).f3), .int .i16 ((rd_T53 t352 0).f4), .int .i8 ((rd_T53 t352 0).f5)], .int .i64 x46_8] rfl (by (try simp only [List.map_toArray, List.map_cons, List.map_nil]); first | done | rfl | (simp only [List.length_drop, List.length_take]; rfl)) ?_; (with_reducible refine (spec_WalksOn.calls k8 (t349.length : Int) ((rd_T53 t352 0).f0) ((rd_T53 t352 0).f1) ((rd_T53 t352 0).f2) ((rd_T53 t352 0).f3) ((rd_T53 t352 0).f4) ((rd_T53 t352 0).f5) x46_8 false t404 _ A110.out).mono ?_); rintro e w142 ⟨rfl, hb⟩; refine ⟨_, rfl, ?_⟩; have n0_ := Aside0.mk (Kd.R_below (by (with_reducible repeat (first | apply Kd.R_alloc | apply Kd.R_drewN | apply Kd.R_drew)); exact HO_7.out) hb); have n1_ := Aside0.mk (below_step (by repeat (first | (with_reducible first | exact HB.out | apply below_alloc | apply pw_below_drewN | apply below_drew1) | exact HB.out)) hb); clear HO_7; clear HB; have HO_7 := n0_; have HB := n1_; clear n0_ n1_; (try clear hb); (try clear hb2); (try clear hk); (try clear hi); have p405 : 0 ≤ (1 : Int) := (by omega); have q405 : 1 < (t352.length : Int) := of_decide_eq_true (by first | (with_reducible assumption) | assumption); obtain ⟨ad405, e405, hx405_0, hx405_1, hx405_2, hx405_3, hx405_4, hx405_5⟩ := at_T53 (Kd.R_reads' HO_7.out).2.2 1 p405 q405; obtain rfl : ad394 = ad405 := (by injection e405); (try simp only [show (1 : Int).toNat = 1 from rfl, Nat.reduceMul, Nat.reduceEqDiff, Go.Addr.add, ↓reduceIte] at hx405_0); (try simp only [show (1 : Int).toNat = 1 from rfl, Nat.reduceMul, Nat.reduceEqDiff, Go.Addr.add, ↓reduceIte] at hx405_1); (try simp only [show (1 : Int).toNat = 1 from rfl, Nat.reduceMul, Nat.reduceEqDiff, Go.Addr.add, ↓reduceIte] at hx405_2); (try simp only [show (1 : Int).toNat = 1 from rfl, Nat.reduceMul, Nat.reduceEqDiff, Go.Addr.add, ↓reduceIte] at hx405_3); (try simp only [show (1 : Int).toNat = 1 from rfl, Nat.reduceMul, Nat.reduceEqDiff, Go.Addr.add, ↓reduceIte] at hx405_4); (try simp only [show (1 : Int).toNat = 1 from rfl, Nat.reduceMul, Nat.reduceEqDiff, Go.Addr.add, ↓reduceIte] at hx405_5); have qi405 : (1 < t352.length) = True := eq_true (by omega); (try rw [show ((1 : Int)).toNat = 1 from rfl] at hx405_0); (try rw [show 1 * 6 = 6 from rfl] at hx405_0); (try rw [show ((1 : Int)).toNat = 1 from rfl] at hx405_1); (try rw [show 1 * 6 = 6 from rfl] at hx405_1); (try rw [show ((1 : Int)).toNat = 1 from rfl] at hx405_2); (try rw [show 1 * 6 = 6 from rfl] at hx405_2); (try rw [show ((1 : Int)).toNat = 1 from rfl] at hx405_3); (try rw [show 1 * 6 = 6 from rfl] at hx405_3); (try rw [show ((1 : Int)).toNat = 1 from rfl] at hx405_4); (try rw [show 1 * 6 = 6 from rfl] at hx405_4); (try rw [show ((1 : Int)).toNat = 1 from rfl] at hx405_5); (try rw [show 1 * 6 = 6 from rfl] at hx405_5); replace p405 := eq_true p405; replace q405 := eq_true q405) | ((with_reducible refine gate_callee (f := 57) rfl ?_); refine goesL_ (some 397) rfl rfl Try.func57 (by kernel_rfl) rfl #[.int .i64 (t349.length : Int), .agg #[.int .i16 ((rd_T53 t352 1).f0), .int .i16 ((rd_T53 t352 1).f1), .int .i16 ((rd_T53 t352 1).f2), .int .i16 ((rd_T53 t352 1).f3), .int .i16 ((rd_T53 t352 1).f4), .int .i8 ((rd_T53 t352 1).f5)], .int .i64 x46_8] rfl (by (try simp only [List.map_toArray, List.map_cons, List.map_nil]); first | done | rfl | (simp only [List.length_drop, List.length_take]; rfl)) ?_; (with_reducible refine (spec_WalksOn.calls k8 (t349.length : Int) ((rd_T53 t352 1).f0) ((rd_T53 t352 1).f1) ((rd_T53 t352 1).f2) ((rd_T53 t352 1).f3) ((rd_T53 t352 1).f4) ((rd_T53 t352 1).f5) x46_8 t406 t407 _ A112.out).mono ?_); rintro e w143 ⟨rfl, hb⟩; refine ⟨_, rfl, ?_⟩; have n0_ := Aside0.mk (Kd.R_below (by (with_reducible repeat (first | apply Kd.R_alloc | apply Kd.R_drewN | apply Kd.R_drew)); exact HO_7.out) hb); have n1_ := Aside0.mk (below_step (by repeat (first | (with_reducible first | exact HB.out | apply below_alloc | apply pw_below_drewN | apply below_drew1) | exact HB.out)) hb); clear HO_7; clear HB; have HO_7 := n0_; have HB := n1_; clear n0_ n1_; (try clear hb); (try clear hb2); (try clear hk); (try clear hi)))
                                  go_roundg k8
                                  case measure => have := HJ2.out; have := HJ13.out; have := HJ35.out; have := HK4.out; have := HJ68.out; have := HK6.out; have := HJ97.out; have := HK8.out; omega
                                  case rel => exact ⟨(wrap64 (x46_8 + 1)), (by first | rfl | (simp; done) | (simp [*]; done)), H', ⟨by have := HJ2.out; have := HJ13.out; have := HJ35.out; have := HK4.out; have := HJ68.out; have := HK6.out; have := HJ97.out; have := HK8.out; omega⟩, ⟨by (with_reducible repeat (first | apply Kd.R_alloc | apply Kd.R_drewN | apply Kd.R_drew)); exact HO_7.out⟩, ⟨by repeat (first | (with_reducible first | exact HB.out | apply below_alloc | apply pw_below_drewN | apply below_drew1) | exact HB.out)⟩⟩
                               ·
                                rw [if_neg c114] at H; have c114b0 : (t407 == 0) = false := beq_eq_false_iff_ne.mpr c114; have c114b1 : (t407 != 0) = true := bne_iff_ne.mpr c114; obtain rfl := Option.some.inj H; have p402 : 0 ≤ (0 : Int) := (by omega)
                                have q402 : 0 < (t352.length : Int) := of_decide_eq_true (by first | (with_reducible assumption) | assumption)
                                obtain ⟨ad402, e402, hx402_0, hx402_1, hx402_2, hx402_3, hx402_4, hx402_5⟩ := at_T53 (Kd.R_reads' HO_7.out).2.2 0 p402 q402
                                obtain rfl : ad394 = ad402 := (by injection e402)
                                have qi402 : (0 < t352.length) = True := eq_true (by omega)
                                (try rw [show ((0 : Int)).toNat = 0 from rfl] at hx402_0)
                                (try rw [show 0 * 6 = 0 from rfl] at hx402_0)
                                (try rw [Addr.add_zero'] at hx402_0)
                                (try rw [show ((0 : Int)).toNat = 0 from rfl] at hx402_1)
                                (try rw [show 0 * 6 = 0 from rfl] at hx402_1)
                                (try rw [Addr.add_zero'] at hx402_1)
                                (try rw [show ((0 : Int)).toNat = 0 from rfl] at hx402_2)
                                (try rw [show 0 * 6 = 0 from rfl] at hx402_2)
                                (try rw [Addr.add_zero'] at hx402_2)
                                (try rw [show ((0 : Int)).toNat = 0 from rfl] at hx402_3)
                                (try rw [show 0 * 6 = 0 from rfl] at hx402_3)
                                (try rw [Addr.add_zero'] at hx402_3)
                                (try rw [show ((0 : Int)).toNat = 0 from rfl] at hx402_4)
                                (try rw [show 0 * 6 = 0 from rfl] at hx402_4)
                                (try rw [Addr.add_zero'] at hx402_4)
                                (try rw [show ((0 : Int)).toNat = 0 from rfl] at hx402_5)
                                (try rw [show 0 * 6 = 0 from rfl] at hx402_5)
                                (try rw [Addr.add_zero'] at hx402_5)
                                replace p402 := eq_true p402
                                replace q402 := eq_true q402
                                go_wp2_with (first | ((with_reducible refine gate_callee (f := 57) rfl ?_); refine goesL_ (some 388) rfl rfl Try.func57 (by kernel_rfl) rfl #[.int .i64 (t349.length : Int), .agg #[.int .i16 ((rd_T53 t352 0).f0), .int .i16 ((rd_T53 t352 0).f1), .int .i16 ((rd_T53 t352 0).f2), .int .i16 ((rd_T53 t352 0).f3), .int .i16 ((rd_T53 t352 0).f4), .int .i8 ((rd_T53 t352 0).f5)], .int .i64 x46_8] rfl (by (try simp only [List.map_toArray, List.map_cons, List.map_nil]); first | done | rfl | (simp only [List.length_drop, List.length_take]; rfl)) ?_; (with_reducible refine (spec_WalksOn.calls k8 (t349.length : Int) ((rd_T53 t352 0).f0) ((rd_T53 t352 0).f1) ((rd_T53 t352 0).f2) ((rd_T53 t352 0).f3) ((rd_T53 t352 0).f4) ((rd_T53 t352 0).f5) x46_8 t403 t404 _ A110.out).mono ?_); rintro e w144 ⟨rfl, hb⟩; refine ⟨_, rfl, ?_⟩; have n0_ := Aside0.mk (Kd.R_below (by (with_reducible repeat (first | apply Kd.R_alloc | apply Kd.R_drewN | apply Kd.R_drew)); exact HO_7.out) hb); have n1_ := Aside0.mk (below_step (by repeat (first | (with_reducible first | exact HB.out | apply below_alloc | apply pw_below_drewN | apply below_drew1) | exact HB.out)) hb); clear HO_7; clear HB; have HO_7 := n0_; have HB := n1_; clear n0_ n1_; (try clear hb); (try clear hb2); (try clear hk); (try clear hi); have p405 : 0 ≤ (1 : Int) := (by omega); have q405 : 1 < (t352.length : Int) := of_decide_eq_true (by first | (with_reducible assumption) | assumption); obtain ⟨ad405, e405, hx405_0, hx405_1, hx405_2, hx405_3, hx405_4, hx405_5⟩ := at_T53 (Kd.R_reads' HO_7.out).2.2 1 p405 q405; obtain rfl : ad394 = ad405 := (by injection e405); (try simp only [show (1 : Int).toNat = 1 from rfl, Nat.reduceMul, Nat.reduceEqDiff, Go.Addr.add, ↓reduceIte] at hx405_0); (try simp only [show (1 : Int).toNat = 1 from rfl, Nat.reduceMul, Nat.reduceEqDiff, Go.Addr.add, ↓reduceIte] at hx405_1); (try simp only [show (1 : Int).toNat = 1 from rfl, Nat.reduceMul, Nat.reduceEqDiff, Go.Addr.add, ↓reduceIte] at hx405_2); (try simp only [show (1 : Int).toNat = 1 from rfl, Nat.reduceMul, Nat.reduceEqDiff, Go.Addr.add, ↓reduceIte] at hx405_3); (try simp only [show (1 : Int).toNat = 1 from rfl, Nat.reduceMul, Nat.reduceEqDiff, Go.Addr.add, ↓reduceIte] at hx405_4); (try simp only [show (1 : Int).toNat = 1 from rfl, Nat.reduceMul, Nat.reduceEqDiff, Go.Addr.add, ↓reduceIte] at hx405_5); have qi405 : (1 < t352.length) = True := eq_true (by omega); (try rw [show ((1 : Int)).toNat = 1 from rfl] at hx405_0); (try rw [show 1 * 6 = 6 from rfl] at hx405_0); (try rw [show ((1 : Int)).toNat = 1 from rfl] at hx405_1); (try rw [show 1 * 6 = 6 from rfl] at hx405_1); (try rw [show ((1 : Int)).toNat = 1 from rfl] at hx405_2); (try rw [show 1 * 6 = 6 from rfl] at hx405_2); (try rw [show ((1 : Int)).toNat = 1 from rfl] at hx405_3); (try rw [show 1 * 6 = 6 from rfl] at hx405_3); (try rw [show ((1 : Int)).toNat = 1 from rfl] at hx405_4); (try rw [show 1 * 6 = 6 from rfl] at hx405_4); (try rw [show ((1 : Int)).toNat = 1 from rfl] at hx405_5); (try rw [show 1 * 6 = 6 from rfl] at hx405_5); replace p405 := eq_true p405; replace q405 := eq_true q405) | ((with_reducible refine gate_callee (f := 57) rfl ?_); refine goesL_ (some 397) rfl rfl Try.func57 (by kernel_rfl) rfl #[.int .i64 (t349.length : Int), .agg #[.int .i16 ((rd_T53 t352 1).f0), .int .i16 ((rd_T53 t352 1).f1), .int .i16 ((rd_T53 t352 1).f2), .int .i16 ((rd_T53 t352 1).f3), .int .i16 ((rd_T53 t352 1).f4), .int .i8 ((rd_T53 t352 1).f5)], .int .i64 x46_8] rfl (by (try simp only [List.map_toArray, List.map_cons, List.map_nil]); first | done | rfl | (simp only [List.length_drop, List.length_take]; rfl)) ?_; (with_reducible refine (spec_WalksOn.calls k8 (t349.length : Int) ((rd_T53 t352 1).f0) ((rd_T53 t352 1).f1) ((rd_T53 t352 1).f2) ((rd_T53 t352 1).f3) ((rd_T53 t352 1).f4) ((rd_T53 t352 1).f5) x46_8 t406 t407 _ A112.out).mono ?_); rintro e w145 ⟨rfl, hb⟩; refine ⟨_, rfl, ?_⟩; have n0_ := Aside0.mk (Kd.R_below (by (with_reducible repeat (first | apply Kd.R_alloc | apply Kd.R_drewN | apply Kd.R_drew)); exact HO_7.out) hb); have n1_ := Aside0.mk (below_step (by repeat (first | (with_reducible first | exact HB.out | apply below_alloc | apply pw_below_drewN | apply below_drew1) | exact HB.out)) hb); clear HO_7; clear HB; have HO_7 := n0_; have HB := n1_; clear n0_ n1_; (try clear hb); (try clear hb2); (try clear hk); (try clear hi)))
                                go_ret
                                exact ⟨by first | rfl | (simp [errW_none, errW_some] <;> rfl) | (simp [*, errW_none, errW_some] <;> rfl), by repeat (first | (with_reducible first | exact HB.out | apply below_alloc | apply pw_below_drewN | apply below_drew1) | exact HB.out)⟩
                              ·
                               rw [if_neg c113] at H; have c113b0 : (t404 == 0) = false := beq_eq_false_iff_ne.mpr c113; have c113b1 : (t404 != 0) = true := bne_iff_ne.mpr c113; obtain rfl := Option.some.inj H; have p402 : 0 ≤ (0 : Int) := (by omega)
                               have q402 : 0 < (t352.length : Int) := of_decide_eq_true (by first | (with_reducible assumption) | assumption)
                               obtain ⟨ad402, e402, hx402_0, hx402_1, hx402_2, hx402_3, hx402_4, hx402_5⟩ := at_T53 (Kd.R_reads' HO_7.out).2.2 0 p402 q402
                               obtain rfl : ad394 = ad402 := (by injection e402)
                               have qi402 : (0 < t352.length) = True := eq_true (by omega)
                               (try rw [show ((0 : Int)).toNat = 0 from rfl] at hx402_0)
                               (try rw [show 0 * 6 = 0 from rfl] at hx402_0)
                               (try rw [Addr.add_zero'] at hx402_0)
                               (try rw [show ((0 : Int)).toNat = 0 from rfl] at hx402_1)
                               (try rw [show 0 * 6 = 0 from rfl] at hx402_1)
                               (try rw [Addr.add_zero'] at hx402_1)
                               (try rw [show ((0 : Int)).toNat = 0 from rfl] at hx402_2)
                               (try rw [show 0 * 6 = 0 from rfl] at hx402_2)
                               (try rw [Addr.add_zero'] at hx402_2)
                               (try rw [show ((0 : Int)).toNat = 0 from rfl] at hx402_3)
                               (try rw [show 0 * 6 = 0 from rfl] at hx402_3)
                               (try rw [Addr.add_zero'] at hx402_3)
                               (try rw [show ((0 : Int)).toNat = 0 from rfl] at hx402_4)
                               (try rw [show 0 * 6 = 0 from rfl] at hx402_4)
                               (try rw [Addr.add_zero'] at hx402_4)
                               (try rw [show ((0 : Int)).toNat = 0 from rfl] at hx402_5)
                               (try rw [show 0 * 6 = 0 from rfl] at hx402_5)
                               (try rw [Addr.add_zero'] at hx402_5)
                               replace p402 := eq_true p402
                               replace q402 := eq_true q402
                               go_wp2_with (first | ((with_reducible refine gate_callee (f := 57) rfl ?_); refine goesL_ (some 388) rfl rfl Try.func57 (by kernel_rfl) rfl #[.int .i64 (t349.length : Int), .agg #[.int .i16 ((rd_T53 t352 0).f0), .int .i16 ((rd_T53 t352 0).f1), .int .i16 ((rd_T53 t352 0).f2), .int .i16 ((rd_T53 t352 0).f3), .int .i16 ((rd_T53 t352 0).f4), .int .i8 ((rd_T53 t352 0).f5)], .int .i64 x46_8] rfl (by (try simp only [List.map_toArray, List.map_cons, List.map_nil]); first | done | rfl | (simp only [List.length_drop, List.length_take]; rfl)) ?_; (with_reducible refine (spec_WalksOn.calls k8 (t349.length : Int) ((rd_T53 t352 0).f0) ((rd_T53 t352 0).f1) ((rd_T53 t352 0).f2) ((rd_T53 t352 0).f3) ((rd_T53 t352 0).f4) ((rd_T53 t352 0).f5) x46_8 t403 t404 _ A110.out).mono ?_); rintro e w146 ⟨rfl, hb⟩; refine ⟨_, rfl, ?_⟩; have n0_ := Aside0.mk (Kd.R_below (by (with_reducible repeat (first | apply Kd.R_alloc | apply Kd.R_drewN | apply Kd.R_drew)); exact HO_7.out) hb); have n1_ := Aside0.mk (below_step (by repeat (first | (with_reducible first | exact HB.out | apply below_alloc | apply pw_below_drewN | apply below_drew1) | exact HB.out)) hb); clear HO_7; clear HB; have HO_7 := n0_; have HB := n1_; clear n0_ n1_; (try clear hb); (try clear hb2); (try clear hk); (try clear hi); have p405 : 0 ≤ (1 : Int) := (by omega); have q405 : 1 < (t352.length : Int) := of_decide_eq_true (by first | (with_reducible assumption) | assumption); obtain ⟨ad405, e405, hx405_0, hx405_1, hx405_2, hx405_3, hx405_4, hx405_5⟩ := at_T53 (Kd.R_reads' HO_7.out).2.2 1 p405 q405; obtain rfl : ad394 = ad405 := (by injection e405); (try simp only [show (1 : Int).toNat = 1 from rfl, Nat.reduceMul, Nat.reduceEqDiff, Go.Addr.add, ↓reduceIte] at hx405_0); (try simp only [show (1 : Int).toNat = 1 from rfl, Nat.reduceMul, Nat.reduceEqDiff, Go.Addr.add, ↓reduceIte] at hx405_1); (try simp only [show (1 : Int).toNat = 1 from rfl, Nat.reduceMul, Nat.reduceEqDiff, Go.Addr.add, ↓reduceIte] at hx405_2); (try simp only [show (1 : Int).toNat = 1 from rfl, Nat.reduceMul, Nat.reduceEqDiff, Go.Addr.add, ↓reduceIte] at hx405_3); (try simp only [show (1 : Int).toNat = 1 from rfl, Nat.reduceMul, Nat.reduceEqDiff, Go.Addr.add, ↓reduceIte] at hx405_4); (try simp only [show (1 : Int).toNat = 1 from rfl, Nat.reduceMul, Nat.reduceEqDiff, Go.Addr.add, ↓reduceIte] at hx405_5); have qi405 : (1 < t352.length) = True := eq_true (by omega); (try rw [show ((1 : Int)).toNat = 1 from rfl] at hx405_0); (try rw [show 1 * 6 = 6 from rfl] at hx405_0); (try rw [show ((1 : Int)).toNat = 1 from rfl] at hx405_1); (try rw [show 1 * 6 = 6 from rfl] at hx405_1); (try rw [show ((1 : Int)).toNat = 1 from rfl] at hx405_2); (try rw [show 1 * 6 = 6 from rfl] at hx405_2); (try rw [show ((1 : Int)).toNat = 1 from rfl] at hx405_3); (try rw [show 1 * 6 = 6 from rfl] at hx405_3); (try rw [show ((1 : Int)).toNat = 1 from rfl] at hx405_4); (try rw [show 1 * 6 = 6 from rfl] at hx405_4); (try rw [show ((1 : Int)).toNat = 1 from rfl] at hx405_5); (try rw [show 1 * 6 = 6 from rfl] at hx405_5); replace p405 := eq_true p405; replace q405 := eq_true q405) | ((with_reducible refine gate_callee (f := 57) rfl ?_); refine goesL_ (some 397) rfl rfl Try.func57 (by kernel_rfl) rfl #[.int .i64 (t349.length : Int), .agg #[.int .i16 ((rd_T53 t352 1).f0), .int .i16 ((rd_T53 t352 1).f1), .int .i16 ((rd_T53 t352 1).f2), .int .i16 ((rd_T53 t352 1).f3), .int .i16 ((rd_T53 t352 1).f4), .int .i8 ((rd_T53 t352 1).f5)], .int .i64 x46_8] rfl (by (try simp only [List.map_toArray, List.map_cons, List.map_nil]); first | done | rfl | (simp only [List.length_drop, List.length_take]; rfl)) ?_; (with_reducible refine (spec_WalksOn.calls k8 (t349.length : Int) ((rd_T53 t352 1).f0) ((rd_T53 t352 1).f1) ((rd_T53 t352 1).f2) ((rd_T53 t352 1).f3) ((rd_T53 t352 1).f4) ((rd_T53 t352 1).f5) x46_8 t406 t407 _ A112.out).mono ?_); rintro e w147 ⟨rfl, hb⟩; refine ⟨_, rfl, ?_⟩; have n0_ := Aside0.mk (Kd.R_below (by (with_reducible repeat (first | apply Kd.R_alloc | apply Kd.R_drewN | apply Kd.R_drew)); exact HO_7.out) hb); have n1_ := Aside0.mk (below_step (by repeat (first | (with_reducible first | exact HB.out | apply below_alloc | apply pw_below_drewN | apply below_drew1) | exact HB.out)) hb); clear HO_7; clear HB; have HO_7 := n0_; have HB := n1_; clear n0_ n1_; (try clear hb); (try clear hb2); (try clear hk); (try clear hi)))
                               go_ret
                               exact ⟨by first | rfl | (simp [errW_none, errW_some] <;> rfl) | (simp [*, errW_none, errW_some] <;> rfl), by repeat (first | (with_reducible first | exact HB.out | apply below_alloc | apply pw_below_drewN | apply below_drew1) | exact HB.out)⟩
                             ·
                              rw [if_neg c111] at H; exact absurd H (by simp)
                            ·
                             rw [if_neg c109] at H; exact absurd H (by simp)
                           ·
                            rw [if_neg c108] at H; have c108b0 : decide (x46_8 < (wrap64 (t393 + 60))) = false := decide_eq_false c108
                            clear c108; obtain rfl := Option.some.inj H; go_wp2
                            go_ret
                            exact ⟨by first | rfl | (simp [errW_none, errW_some] <;> rfl) | (simp [*, errW_none, errW_some] <;> rfl), by repeat (first | (with_reducible first | exact HB.out | apply below_alloc | apply pw_below_drewN | apply below_drew1) | exact HB.out)⟩
                     ·
                      rw [if_neg c95] at H; exact absurd H (by simp)
                    ·
                     rw [if_neg c94] at H; exact absurd H (by simp)
def laws_FnRepeats.Pure : Prop := ∀ (l0 : List Int) (l1 : List Int), l0.length ≤ maxLen → l0.length * 1 ≤ 140737488351232 → (∀ x ∈ l0, (Lit.int .u8 x).wf = true) → l1.length ≤ maxLen → l1.length * 1 ≤ 140737488351232 → (∀ x ∈ l1, (Lit.int .u8 x).wf = true) → ∃ k, laws_FnRepeats.f k l0 l1 = some true
theorem laws_FnRepeats.walk (P : laws_FnRepeats.Pure) (a0 : Option Addr) (len0 cap0 : Nat) (z0 : List Int) (a1 : Option Addr) (len1 cap1 : Nat) (z1 : List Int) (w : World) (w0 : (a0 = none ∧ len0 = 0 ∧ cap0 = 0 ∧ z0 = []) ∨ ∃ x, a0 = some x ∧ len0 ≤ cap0 ∧ cap0 ≤ maxLen ∧ z0.length = cap0 ∧ (∀ i, i < z0.length → w.cell? (x.add i) = some (.int .u8 (z0.getD i 0))) ∧ ∀ n ∈ z0, (Lit.int .u8 n).wf = true) (y0 : len0 * 1 ≤ 140737488351232) (w1 : (a1 = none ∧ len1 = 0 ∧ cap1 = 0 ∧ z1 = []) ∨ ∃ x, a1 = some x ∧ len1 ≤ cap1 ∧ cap1 ≤ maxLen ∧ z1.length = cap1 ∧ (∀ i, i < z1.length → w.cell? (x.add i) = some (.int .u8 (z1.getD i 0))) ∧ ∀ n ∈ z1, (Lit.int .u8 n).wf = true) (y1 : len1 * 1 ≤ 140737488351232) :
    Calls Try.prog 7 #[.slice a0 len0 cap0, .slice a1 len1 cap1] w fun e w' => e = .returned (.bool true) ∧ Below w.heap.size w w' := by
  obtain ⟨l0, rfl, hr0, hm0, hw0, hc0⟩ := ReadsInt.ofRowC w0
  obtain ⟨l1, rfl, hr1, hm1, hw1, hc1⟩ := ReadsInt.ofRowC w1
  obtain ⟨k, h⟩ := P l0 l1 hm0 y0 hw0 hm1 y1 hw1
  refine (laws_FnRepeats.calls k _ _ l0 _ _ l1 true w (Kd.C_of_reads (d := (0 : Int)) (h1 := fun _ => rfl) hr0) hc0 (Kd.C_of_reads (d := (0 : Int)) (h1 := fun _ => rfl) hr1) hc1 h rfl).mono ?_
  rintro e w' ⟨rfl, hd⟩
  exact ⟨rfl, hd⟩
end Go.Proofs.Ythbblaapmmhclaa.G
