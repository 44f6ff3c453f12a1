-- Written by wip/tools/xprint.py out of the translation. Lean checks it.
import Derived.Test.YtodlaafabnmbhaaG0
import Derived.Test.YtodlaafabnmbhaaG6
import Derived.Test.YtodlaafabnmbhaaG7
import Derived.Test.YtodlaafabnmbhaaG9
namespace Go.Proofs.Ytodlaafabnmbhaa.G
open Go.RowKit Go.Proofs.YtodlaafabnmbhaaW.PrintWords Go.Proofs.YtodlaafabnmbhaaW.PrintLast Go.Proofs.YtodlaafabnmbhaaW.PrintMore
attribute [local go_sem] max2_int min2_int max_two min_two max_three min_three max_four min_four   -- for this text's walks alone
set_option linter.unusedVariables false
set_option linter.unusedSimpArgs false

/-! ### impl_LentBetween: function 40 -/
mutual
def impl_LentBetween.j0 : Nat → List (S33) → Int → Int → Int → Option (Int × Int)
  | 0, _, _, _, _ => none
  | k + 1, x1, x2, x3, x10 => if x10 = 0 then (impl_LentBetween.l0 k x2 x3 0 x1 (x1.length : Int) 0) else (some (0, x10))
def impl_LentBetween.l0 : Nat → Int → Int → Int → List (S33) → Int → Int → Option (Int × Int)
  | 0, _, _, _, _, _, _ => none
  | k + 1, x2, x3, x11, x34, x35, x36 => if x36 < x35 then (if 0 ≤ x36 then (if x36 < (x34.length : Int) then (if ((rd_T33 x34 x36).f3) = 2 then (if (wrap64 ((rd_T33 x34 x36).f1)) = x2 then (impl_LentBetween.j2 k x2 x3 x11 x34 x35 x36 ((wrap64 ((rd_T33 x34 x36).f2)) == x3) ((rd_T33 x34 x36).f0) ((rd_T33 x34 x36).f1) ((rd_T33 x34 x36).f2) ((rd_T33 x34 x36).f3) ((rd_T33 x34 x36).f4)) else (impl_LentBetween.j2 k x2 x3 x11 x34 x35 x36 false ((rd_T33 x34 x36).f0) ((rd_T33 x34 x36).f1) ((rd_T33 x34 x36).f2) ((rd_T33 x34 x36).f3) ((rd_T33 x34 x36).f4))) else (impl_LentBetween.l0 k x2 x3 x11 x34 x35 (wrap64 (x36 + 1)))) else (none)) else (none)) else (some (x11, 0))
def impl_LentBetween.j2 : Nat → Int → Int → Int → List (S33) → Int → Int → Bool → Int → Int → Int → Int → Int → Option (Int × Int)
  | 0, _, _, _, _, _, _, _, _, _, _, _, _ => none
  | k + 1, x2, x3, x11, x34, x35, x36, x44, x329000, x329001, x329002, x329003, x329004 => if x44 = true then (impl_LentBetween.l0 k x2 x3 (wrap64 (x11 + (wrap64 (x329004)))) x34 x35 (wrap64 (x36 + 1))) else (if (wrap64 (x329001)) = x3 then (if (wrap64 (x329002)) = x2 then (impl_LentBetween.l0 k x2 x3 (wrap64 (x11 - (wrap64 (x329004)))) x34 x35 (wrap64 (x36 + 1))) else (impl_LentBetween.l0 k x2 x3 x11 x34 x35 (wrap64 (x36 + 1)))) else (impl_LentBetween.l0 k x2 x3 x11 x34 x35 (wrap64 (x36 + 1))))
end
def impl_LentBetween.f (k : Nat) (a0 : Int) (l1 : List (S33)) (a2 : Int) (a3 : Int) : Option (Int × Int) := (impl_ValidLedger.f k a0 l1).bind fun t321 => ((impl_isParty.f a0 a2).bind fun t322 => (if t322 = true then ((impl_isParty.f a0 a3).bind fun t323 => (if t323 = true then ((impl_codeOf.f t321 (a2 != a3)).bind fun t324 => (impl_LentBetween.j0 k l1 a2 a3 t324)) else ((impl_codeOf.f t321 false).bind fun t325 => (impl_LentBetween.j0 k l1 a2 a3 t325)))) else ((impl_codeOf.f t321 false).bind fun t326 => (impl_LentBetween.j0 k l1 a2 a3 t326))))
theorem impl_LentBetween.mono_l : ∀ k, (∀ y0 y1 y2 y3, LeO (impl_LentBetween.j0 k y0 y1 y2 y3) (impl_LentBetween.j0 (k + 1) y0 y1 y2 y3)) ∧ (∀ y0 y1 y2 y3 y4 y5, LeO (impl_LentBetween.l0 k y0 y1 y2 y3 y4 y5) (impl_LentBetween.l0 (k + 1) y0 y1 y2 y3 y4 y5)) ∧ (∀ y0 y1 y2 y3 y4 y5 y6 y7 y8 y9 y10 y11, LeO (impl_LentBetween.j2 k y0 y1 y2 y3 y4 y5 y6 y7 y8 y9 y10 y11) (impl_LentBetween.j2 (k + 1) y0 y1 y2 y3 y4 y5 y6 y7 y8 y9 y10 y11))
  | 0 => ⟨fun _ _ _ _ r h => by simp [impl_LentBetween.j0] at h, fun _ _ _ _ _ _ r h => by simp [impl_LentBetween.l0] at h, fun _ _ _ _ _ _ _ _ _ _ _ _ r h => by simp [impl_LentBetween.j2] at h⟩
  | k + 1 => by
    obtain ⟨ih0, ih1, ih2⟩ := impl_LentBetween.mono_l k
    refine ⟨?_, ?_, ?_⟩
    · intro y0 y1 y2 y3
      unfold impl_LentBetween.j0
      repeat' first
      | (with_reducible exact ih0 _ _ _ _)
      | (with_reducible exact ih1 _ _ _ _ _ _)
      | (with_reducible exact ih2 _ _ _ _ _ _ _ _ _ _ _ _)
      | (with_reducible exact impl_ValidLedger.mono _ _ _)
      | (with_reducible exact LeO.refl _)
      | (with_reducible exact LeO.none _)
      | (with_reducible refine LeO.ite ?_ ?_)
      | (with_reducible refine LeO.bind ?_ (fun _ => ?_))
      | exact ih0 _ _ _ _
      | exact ih1 _ _ _ _ _ _
      | exact ih2 _ _ _ _ _ _ _ _ _ _ _ _
      | exact impl_ValidLedger.mono _ _ _
      | exact LeO.none _
      | refine LeO.ite ?_ ?_
      | refine LeO.bind ?_ (fun _ => ?_)
    · intro y0 y1 y2 y3 y4 y5
      unfold impl_LentBetween.l0
      repeat' first
      | (with_reducible exact ih0 _ _ _ _)
      | (with_reducible exact ih1 _ _ _ _ _ _)
      | (with_reducible exact ih2 _ _ _ _ _ _ _ _ _ _ _ _)
      | (with_reducible exact impl_ValidLedger.mono _ _ _)
      | (with_reducible exact LeO.refl _)
      | (with_reducible exact LeO.none _)
      | (with_reducible refine LeO.ite ?_ ?_)
      | (with_reducible refine LeO.bind ?_ (fun _ => ?_))
      | exact ih0 _ _ _ _
      | exact ih1 _ _ _ _ _ _
      | exact ih2 _ _ _ _ _ _ _ _ _ _ _ _
      | exact impl_ValidLedger.mono _ _ _
      | exact LeO.none _
      | refine LeO.ite ?_ ?_
      | refine LeO.bind ?_ (fun _ => ?_)
    · intro y0 y1 y2 y3 y4 y5 y6 y7 y8 y9 y10 y11
      unfold impl_LentBetween.j2
      repeat' first
      | (with_reducible exact ih0 _ _ _ _)
      | (with_reducible exact ih1 _ _ _ _ _ _)
      | (with_reducible exact ih2 _ _ _ _ _ _ _ _ _ _ _ _)
      | (with_reducible exact impl_ValidLedger.mono _ _ _)
      | (with_reducible exact LeO.refl _)
      | (with_reducible exact LeO.none _)
      | (with_reducible refine LeO.ite ?_ ?_)
      | (with_reducible refine LeO.bind ?_ (fun _ => ?_))
      | exact ih0 _ _ _ _
      | exact ih1 _ _ _ _ _ _
      | exact ih2 _ _ _ _ _ _ _ _ _ _ _ _
      | exact impl_ValidLedger.mono _ _ _
      | exact LeO.none _
      | refine LeO.ite ?_ ?_
      | refine LeO.bind ?_ (fun _ => ?_)
theorem impl_LentBetween.mono : ∀ a0 a1 a2 a3 k, LeO (impl_LentBetween.f k a0 a1 a2 a3) (impl_LentBetween.f (k + 1) a0 a1 a2 a3) := by
  intro a0 a1 a2 a3 k
  obtain ⟨ih0, ih1, ih2⟩ := impl_LentBetween.mono_l k
  unfold impl_LentBetween.f
  repeat' first
      | (with_reducible exact ih0 _ _ _ _)
      | (with_reducible exact ih1 _ _ _ _ _ _)
      | (with_reducible exact ih2 _ _ _ _ _ _ _ _ _ _ _ _)
      | (with_reducible exact impl_ValidLedger.mono _ _ _)
      | (with_reducible exact LeO.refl _)
      | (with_reducible exact LeO.none _)
      | (with_reducible refine LeO.ite ?_ ?_)
      | (with_reducible refine LeO.bind ?_ (fun _ => ?_))
      | exact ih0 _ _ _ _
      | exact ih1 _ _ _ _ _ _
      | exact ih2 _ _ _ _ _ _ _ _ _ _ _ _
      | exact impl_ValidLedger.mono _ _ _
      | exact LeO.none _
      | refine LeO.ite ?_ ?_
      | refine LeO.bind ?_ (fun _ => ?_)
set_option maxHeartbeats 8000000 in
set_option maxRecDepth 100000 in
theorem impl_LentBetween.calls (k : Nat) (a0 : Int) (A1 : Option Addr) (c1 : Nat) (l1 : List (S33)) (a2 : Int) (a3 : Int) (r1 : Int) (r2 : Int) (w : World) (hr1 : Kd.C k33 w A1 l1.length l1) (hc1 : l1.length ≤ c1) (h : impl_LentBetween.f k a0 l1 a2 a3 = some (r1, r2)) :
    Calls Try.prog 40 #[.int .i64 a0, .slice A1 l1.length c1, .int .i64 a2, .int .i64 a3] w fun e w' => e = .returned (.tuple #[.int .i64 r1, .int .i64 r2]) ∧ Below w.heap.size w w' := by
  have hu33 := Try.underlying33
  have HR1 := Aside0.mk hr1
  have HC1 := Aside0.mk hc1
  clear hr1 hc1
  have HB := Aside0.mk (Below.refl w.heap.size w)
  have H : ((impl_ValidLedger.f k a0 l1).bind fun t321 => ((impl_isParty.f a0 a2).bind fun t322 => (if t322 = true then ((impl_isParty.f a0 a3).bind fun t323 => (if t323 = true then ((impl_codeOf.f t321 (a2 != a3)).bind fun t324 => (impl_LentBetween.j0 k l1 a2 a3 t324)) else ((impl_codeOf.f t321 false).bind fun t325 => (impl_LentBetween.j0 k l1 a2 a3 t325)))) else ((impl_codeOf.f t321 false).bind fun t326 => (impl_LentBetween.j0 k l1 a2 a3 t326))))) = some (r1, r2) := h
  clear h
  have HC5 := Aside0.mk H
  clear H
  go_enter Try.func40, Try.ntmps40
  go_upto_region 1 with (fail)
  go_cut [10] (fun v10 wc => ∃ (kq : Nat) (x10_4 : Int), v10 = .int .i64 x10_4 ∧ Aside0 (impl_LentBetween.j0 kq l1 a2 a3 x10_4 = some (r1, r2)) ∧ Aside0 (kq ≤ k) ∧ Aside0 (Below w.heap.size w wc))
  case first =>
    have H := HC5.out
    clear HC5
    replace H := Option.bind_eq_some_iff.mp H
    obtain ⟨t321, A60, H⟩ := H
    replace H : ((impl_isParty.f a0 a2).bind fun t322 => (if t322 = true then ((impl_isParty.f a0 a3).bind fun t323 => (if t323 = true then ((impl_codeOf.f t321 (a2 != a3)).bind fun t324 => (impl_LentBetween.j0 k l1 a2 a3 t324)) else ((impl_codeOf.f t321 false).bind fun t325 => (impl_LentBetween.j0 k l1 a2 a3 t325)))) else ((impl_codeOf.f t321 false).bind fun t326 => (impl_LentBetween.j0 k l1 a2 a3 t326)))) = some (r1, r2) := H
    have A6 := Aside0.mk A60
    clear A60
    replace H := Option.bind_eq_some_iff.mp H
    obtain ⟨t322, A70, H⟩ := H
    replace H : (if t322 = true then ((impl_isParty.f a0 a3).bind fun t323 => (if t323 = true then ((impl_codeOf.f t321 (a2 != a3)).bind fun t324 => (impl_LentBetween.j0 k l1 a2 a3 t324)) else ((impl_codeOf.f t321 false).bind fun t325 => (impl_LentBetween.j0 k l1 a2 a3 t325)))) else ((impl_codeOf.f t321 false).bind fun t326 => (impl_LentBetween.j0 k l1 a2 a3 t326))) = some (r1, r2) := H
    have A7 := Aside0.mk A70
    clear A70
    by_cases c8 : t322 = true
    · subst c8
      have H1 : ((impl_isParty.f a0 a3).bind fun t323 => (if t323 = true then ((impl_codeOf.f t321 (a2 != a3)).bind fun t324 => (impl_LentBetween.j0 k l1 a2 a3 t324)) else ((impl_codeOf.f t321 false).bind fun t325 => (impl_LentBetween.j0 k l1 a2 a3 t325)))) = some (r1, r2) := by rw [if_pos rfl] at H; exact H
      clear H
      have H := H1
      clear H1
      replace H := Option.bind_eq_some_iff.mp H
      obtain ⟨t323, A90, H⟩ := H
      replace H : (if t323 = true then ((impl_codeOf.f t321 (a2 != a3)).bind fun t324 => (impl_LentBetween.j0 k l1 a2 a3 t324)) else ((impl_codeOf.f t321 false).bind fun t325 => (impl_LentBetween.j0 k l1 a2 a3 t325))) = some (r1, r2) := H
      have A9 := Aside0.mk A90
      clear A90
      by_cases c10 : t323 = true
      · subst c10
        have H1 : ((impl_codeOf.f t321 (a2 != a3)).bind fun t324 => (impl_LentBetween.j0 k l1 a2 a3 t324)) = some (r1, r2) := by rw [if_pos rfl] at H; exact H
        clear H
        have H := H1
        clear H1
        replace H := Option.bind_eq_some_iff.mp H
        obtain ⟨t324, A110, H⟩ := H
        replace H : (impl_LentBetween.j0 k l1 a2 a3 t324) = some (r1, r2) := H
        have A11 := Aside0.mk A110
        clear A110
        have H' := Aside0.mk H
        clear H
        go_wp2_with (first | ((with_reducible refine gate_callee (f := 30) rfl ?_); refine goesL_ (some 16) rfl rfl Try.func30 (by kernel_rfl) rfl #[.int .i64 a0, .slice A1 l1.length c1] rfl (by (try simp only [List.map_toArray, List.map_cons, List.map_nil]); first | done | rfl | (simp only [List.length_drop, List.length_take]; rfl)) ?_; (with_reducible refine (impl_ValidLedger.calls k a0 _ _ l1 t321 _ ?side1 ?side2 A6.out).mono ?_); (case side1 => repeat (first | exact (Kd.C_below HR1.out HB.out) | (with_reducible refine Kd.C_alloc ?_ _) | (with_reducible refine Kd.C_drewN ?_ _) | (with_reducible refine Kd.C_drew ?_))); (case side2 => exact HC1.out); rintro e w12 ⟨rfl, hb⟩; refine ⟨_, rfl, ?_⟩; have n0_ := Aside0.mk (below_step (by repeat (first | (with_reducible first | exact HB.out | apply below_alloc | apply pw_below_drewN | apply below_drew1) | exact HB.out)) hb); clear HB; have HB := n0_; clear n0_; (try clear hb); (try clear hb2); (try clear hk); (try clear hi)) | ((with_reducible refine gate_callee (f := 63) rfl ?_); refine goesL_ (some 19) rfl rfl Try.func63 (by kernel_rfl) rfl #[.int .i64 a0, .int .i64 a2] rfl (by (try simp only [List.map_toArray, List.map_cons, List.map_nil]); first | done | rfl | (simp only [List.length_drop, List.length_take]; rfl)) ?_; (with_reducible refine (impl_isParty.calls a0 a2 true _ A7.out).mono ?_); rintro e w' ⟨rfl, ⟨nd, rfl⟩⟩; refine ⟨_, rfl, ?_⟩) | (go_at_call 63; (with_reducible refine (impl_isParty.calls a0 a3 true _ A9.out).mono ?_); rintro e w' ⟨rfl, ⟨nd, rfl⟩⟩) | ((with_reducible refine gate_callee (f := 65) rfl ?_); refine goesL_ (some 30) rfl rfl Try.func65 (by kernel_rfl) rfl #[.bool t321, .bool (a2 != a3)] rfl (by (try simp only [List.map_toArray, List.map_cons, List.map_nil]); first | done | rfl | (simp only [List.length_drop, List.length_take]; rfl)) ?_; (with_reducible refine (impl_codeOf.calls t321 (a2 != a3) t324 _ A11.out).mono ?_); rintro e w' ⟨rfl, ⟨nd, rfl⟩⟩; refine ⟨_, rfl, ?_⟩))
        go_meet
        case rel => exact ⟨_, (t324), (by first | rfl | (simp; done) | (simp [*]; done)), H', ⟨by first | omega | exact Nat.le_refl _⟩, ⟨by repeat (first | (with_reducible first | exact HB.out | apply below_alloc | apply pw_below_drewN | apply below_drew1) | exact HB.out)⟩⟩
      · replace c10 := Bool.eq_false_iff.mpr c10
        subst c10
        have H1 : ((impl_codeOf.f t321 false).bind fun t325 => (impl_LentBetween.j0 k l1 a2 a3 t325)) = some (r1, r2) := by rw [if_neg (show ¬ (false = true) by decide)] at H; exact H
        clear H
        have H := H1
        clear H1
        replace H := Option.bind_eq_some_iff.mp H
        obtain ⟨t325, A130, H⟩ := H
        replace H : (impl_LentBetween.j0 k l1 a2 a3 t325) = some (r1, r2) := H
        have A13 := Aside0.mk A130
        clear A130
        have H' := Aside0.mk H
        clear H
        go_wp2_with (first | ((with_reducible refine gate_callee (f := 30) rfl ?_); refine goesL_ (some 16) rfl rfl Try.func30 (by kernel_rfl) rfl #[.int .i64 a0, .slice A1 l1.length c1] rfl (by (try simp only [List.map_toArray, List.map_cons, List.map_nil]); first | done | rfl | (simp only [List.length_drop, List.length_take]; rfl)) ?_; (with_reducible refine (impl_ValidLedger.calls k a0 _ _ l1 t321 _ ?side1 ?side2 A6.out).mono ?_); (case side1 => repeat (first | exact (Kd.C_below HR1.out HB.out) | (with_reducible refine Kd.C_alloc ?_ _) | (with_reducible refine Kd.C_drewN ?_ _) | (with_reducible refine Kd.C_drew ?_))); (case side2 => exact HC1.out); rintro e w14 ⟨rfl, hb⟩; refine ⟨_, rfl, ?_⟩; have n0_ := Aside0.mk (below_step (by repeat (first | (with_reducible first | exact HB.out | apply below_alloc | apply pw_below_drewN | apply below_drew1) | exact HB.out)) hb); clear HB; have HB := n0_; clear n0_; (try clear hb); (try clear hb2); (try clear hk); (try clear hi)) | ((with_reducible refine gate_callee (f := 63) rfl ?_); refine goesL_ (some 19) rfl rfl Try.func63 (by kernel_rfl) rfl #[.int .i64 a0, .int .i64 a2] rfl (by (try simp only [List.map_toArray, List.map_cons, List.map_nil]); first | done | rfl | (simp only [List.length_drop, List.length_take]; rfl)) ?_; (with_reducible refine (impl_isParty.calls a0 a2 true _ A7.out).mono ?_); rintro e w' ⟨rfl, ⟨nd, rfl⟩⟩; refine ⟨_, rfl, ?_⟩) | (go_at_call 63; (with_reducible refine (impl_isParty.calls a0 a3 false _ A9.out).mono ?_); rintro e w' ⟨rfl, ⟨nd, rfl⟩⟩) | ((with_reducible refine gate_callee (f := 65) rfl ?_); refine goesL_ (some 30) rfl rfl Try.func65 (by kernel_rfl) rfl #[.bool t321, .bool false] rfl (by (try simp only [List.map_toArray, List.map_cons, List.map_nil]); first | done | rfl | (simp only [List.length_drop, List.length_take]; rfl)) ?_; (with_reducible refine (impl_codeOf.calls t321 false t325 _ A13.out).mono ?_); rintro e w' ⟨rfl, ⟨nd, rfl⟩⟩; refine ⟨_, rfl, ?_⟩))
        go_meet
        case rel => exact ⟨_, (t325), (by first | rfl | (simp; done) | (simp [*]; done)), H', ⟨by first | omega | exact Nat.le_refl _⟩, ⟨by repeat (first | (with_reducible first | exact HB.out | apply below_alloc | apply pw_below_drewN | apply below_drew1) | exact HB.out)⟩⟩
    · replace c8 := Bool.eq_false_iff.mpr c8
      subst c8
      have H1 : ((impl_codeOf.f t321 false).bind fun t326 => (impl_LentBetween.j0 k l1 a2 a3 t326)) = some (r1, r2) := by rw [if_neg (show ¬ (false = true) by decide)] at H; exact H
      clear H
      have H := H1
      clear H1
      replace H := Option.bind_eq_some_iff.mp H
      obtain ⟨t326, A150, H⟩ := H
      replace H : (impl_LentBetween.j0 k l1 a2 a3 t326) = some (r1, r2) := H
      have A15 := Aside0.mk A150
      clear A150
      have H' := Aside0.mk H
      clear H
      go_wp2_with (first | ((with_reducible refine gate_callee (f := 30) rfl ?_); refine goesL_ (some 16) rfl rfl Try.func30 (by kernel_rfl) rfl #[.int .i64 a0, .slice A1 l1.length c1] rfl (by (try simp only [List.map_toArray, List.map_cons, List.map_nil]); first | done | rfl | (simp only [List.length_drop, List.length_take]; rfl)) ?_; (with_reducible refine (impl_ValidLedger.calls k a0 _ _ l1 t321 _ ?side1 ?side2 A6.out).mono ?_); (case side1 => repeat (first | exact (Kd.C_below HR1.out HB.out) | (with_reducible refine Kd.C_alloc ?_ _) | (with_reducible refine Kd.C_drewN ?_ _) | (with_reducible refine Kd.C_drew ?_))); (case side2 => exact HC1.out); rintro e w16 ⟨rfl, hb⟩; refine ⟨_, rfl, ?_⟩; have n0_ := Aside0.mk (below_step (by repeat (first | (with_reducible first | exact HB.out | apply below_alloc | apply pw_below_drewN | apply below_drew1) | exact HB.out)) hb); clear HB; have HB := n0_; clear n0_; (try clear hb); (try clear hb2); (try clear hk); (try clear hi)) | ((with_reducible refine gate_callee (f := 63) rfl ?_); refine goesL_ (some 19) rfl rfl Try.func63 (by kernel_rfl) rfl #[.int .i64 a0, .int .i64 a2] rfl (by (try simp only [List.map_toArray, List.map_cons, List.map_nil]); first | done | rfl | (simp only [List.length_drop, List.length_take]; rfl)) ?_; (with_reducible refine (impl_isParty.calls a0 a2 false _ A7.out).mono ?_); rintro e w' ⟨rfl, ⟨nd, rfl⟩⟩; refine ⟨_, rfl, ?_⟩) | ((with_reducible refine gate_callee (f := 65) rfl ?_); refine goesL_ (some 30) rfl rfl Try.func65 (by kernel_rfl) rfl #[.bool t321, .bool false] rfl (by (try simp only [List.map_toArray, List.map_cons, List.map_nil]); first | done | rfl | (simp only [List.length_drop, List.length_take]; rfl)) ?_; (with_reducible refine (impl_codeOf.calls t321 false t326 _ A15.out).mono ?_); rintro e w' ⟨rfl, ⟨nd, rfl⟩⟩; refine ⟨_, rfl, ?_⟩))
      go_meet
      case rel => exact ⟨_, (t326), (by first | rfl | (simp; done) | (simp [*]; done)), H', ⟨by first | omega | exact Nat.le_refl _⟩, ⟨by repeat (first | (with_reducible first | exact HB.out | apply below_alloc | apply pw_below_drewN | apply below_drew1) | exact HB.out)⟩⟩
  case rest =>
    clear HC5
    try clear c1
    try clear p2
    try clear c3
    try clear c4
    try clear c6
    try clear c8
    try clear c10
    obtain ⟨kq, x10_4, rfl, HA, HJ4, HB⟩ := hcut
    cases kq with
    | zero => exact absurd HA.out (by simp [impl_LentBetween.j0])
    | succ kj4 =>
      have H := HA.out
      clear HA
      simp only [impl_LentBetween.j0] at H
      by_cases c17 : x10_4 = 0
      · rw [if_pos c17] at H
        have c17b0 : (x10_4 == 0) = true := beq_iff_eq.mpr c17
        have c17b1 : (x10_4 != 0) = false := bne_eq_false_iff_eq.mpr c17
        clear c17
        have H' := Aside0.mk H
        clear H
        go_wp2
        go_loopg [11, 36] kj4 (fun kq v11 v36 w' => ∃ (x11_2 : Int) (x36_2 : Int), v11 = .int .i64 x11_2 ∧ v36 = .int .i64 x36_2 ∧ Aside0 (impl_LentBetween.l0 kq a2 a3 x11_2 l1 (l1.length : Int) x36_2 = some (r1, r2)) ∧ Aside0 (kq ≤ kj4) ∧ Aside0 (Below w.heap.size w w'))
        case atStart => exact ⟨(0), (0), (by first | rfl | (simp; done) | (simp [*]; done)), (by first | rfl | (simp; done) | (simp [*]; done)), H', ⟨Nat.le_refl _⟩, ⟨by repeat (first | (with_reducible first | exact HB.out | apply below_alloc | apply pw_below_drewN | apply below_drew1) | exact HB.out)⟩⟩
        case round =>
          clear H'
          try clear c1
          try clear p2
          try clear c3
          try clear c4
          try clear c6
          try clear c8
          try clear c10
          try clear c17
          try clear c17b0
          try clear c17b1
          try clear p2
          obtain ⟨x11_2, x36_2, rfl, rfl, HA, HK2, HB⟩ := hrel
          cases gk with
          | zero => exact absurd HA.out (by simp [impl_LentBetween.l0])
          | succ k2 =>
            have H := HA.out
            clear HA
            simp only [impl_LentBetween.l0] at H
            by_cases c18 : x36_2 < (l1.length : Int)
            · rw [if_pos c18] at H
              have c18b0 : decide (x36_2 < (l1.length : Int)) = true := decide_eq_true c18
              clear c18
              by_cases c19 : 0 ≤ x36_2
              · rw [if_pos c19] at H
                have c19b0 : decide (0 ≤ x36_2) = true := decide_eq_true c19
                clear c19
                by_cases c20 : x36_2 < (l1.length : Int)
                · rw [if_pos c20] at H
                  have c20b0 : decide (x36_2 < (l1.length : Int)) = true := decide_eq_true c20
                  clear c20
                  by_cases c21 : ((rd_T33 l1 x36_2).f3) = 2
                  · rw [if_pos c21] at H
                    have c21b0 : (((rd_T33 l1 x36_2).f3) == 2) = true := beq_iff_eq.mpr c21
                    have c21b1 : (((rd_T33 l1 x36_2).f3) != 2) = false := bne_eq_false_iff_eq.mpr c21
                    clear c21
                    have HC22 := Aside0.mk H
                    clear H
                    have p327 : 0 ≤ (x36_2 : Int) := of_decide_eq_true (by first | (with_reducible assumption) | assumption)
                    have q327 : x36_2 < (l1.length : Int) := of_decide_eq_true (by first | (with_reducible assumption) | assumption)
                    obtain ⟨ad327, e327, hx327_0, hx327_1, hx327_2, hx327_3, hx327_4⟩ := at_T33 HR1.out x36_2 p327 q327
                    cases e327
                    replace hx327_0 := (HB.out.cell (World.block_lt_of_cell? w _ hx327_0)).trans hx327_0
                    replace hx327_1 := (HB.out.cell (World.block_lt_of_cell? w _ hx327_1)).trans hx327_1
                    replace hx327_2 := (HB.out.cell (World.block_lt_of_cell? w _ hx327_2)).trans hx327_2
                    replace hx327_3 := (HB.out.cell (World.block_lt_of_cell? w _ hx327_3)).trans hx327_3
                    replace hx327_4 := (HB.out.cell (World.block_lt_of_cell? w _ hx327_4)).trans hx327_4
                    replace p327 := eq_true p327
                    replace q327 := eq_true q327
                    go_upto_region 9 with (first | ((with_reducible refine gate_dst (N := 13) rfl ?_); refine box_event ?hg (N := 13) ?hd (cs := #[.int .i16 0, .int .i8 0, .int .i8 0, .int .u8 0, .int .i16 0]) (t := 33) ?hr ?_; (case hd => rfl); (case hg => rfl); (case hr => first | (go_simp; done) | (go_simp; rfl)); intro gb328 hg w23 hbox hb; have n0_ := Aside0.mk (below_step (by repeat (first | (with_reducible first | exact HB.out | apply below_alloc | apply pw_below_drewN | apply below_drew1) | exact HB.out)) hb); have n1_ := Aside0.mk (hbox); have n2_ := Aside0.mk ((by rw [hg]; exact (below_size (by repeat (first | (with_reducible first | exact HB.out | apply below_alloc | apply pw_below_drewN | apply below_drew1) | exact HB.out))) : w.heap.size ≤ gb328)); have n3_ := Aside0.mk ((by rw [hg]; exact (below_size (by repeat (first | (with_reducible first | exact HB.out | apply below_alloc | apply pw_below_drewN | apply below_drew1) | exact HB.out))) : w.heap.size ≤ gb328)); clear HB; have HB := n0_; have BK328 := n1_; have GW328 := n2_; have GE328 := n3_; clear n0_ n1_ n2_ n3_; clear hb hbox hg; have hcz24_0 : w23.cell? ⟨gb328, 0, none⟩ = some (.int .i16 0) := (blk_cell BK328.out 0).trans rfl; have hcz24_1 : w23.cell? ⟨gb328, 1, none⟩ = some (.int .i8 0) := (blk_cell BK328.out 1).trans rfl; have hcz24_2 : w23.cell? ⟨gb328, 2, none⟩ = some (.int .i8 0) := (blk_cell BK328.out 2).trans rfl; have hcz24_3 : w23.cell? ⟨gb328, 3, none⟩ = some (.int .u8 0) := (blk_cell BK328.out 3).trans rfl; have hcz24_4 : w23.cell? ⟨gb328, 4, none⟩ = some (.int .i16 0) := (blk_cell BK328.out 4).trans rfl; have hfz24_0 := blk_frozen BK328.out 0; have hfz24_1 := blk_frozen BK328.out 1; have hfz24_2 := blk_frozen BK328.out 2; have hfz24_3 := blk_frozen BK328.out 3; have hfz24_4 := blk_frozen BK328.out 4))
                    (try simp only [Act.put, List.setIfInBounds_toArray, List.set_cons_zero, List.set_cons_succ])
                    go_cut [44] (fun v44 wc => ∃ (kq : Nat) (x44_21 : Bool), v44 = .bool x44_21 ∧ Aside0 (impl_LentBetween.j2 kq a2 a3 x11_2 l1 (l1.length : Int) x36_2 x44_21 ((rd_T33 l1 x36_2).f0) ((rd_T33 l1 x36_2).f1) ((rd_T33 l1 x36_2).f2) ((rd_T33 l1 x36_2).f3) ((rd_T33 l1 x36_2).f4) = some (r1, r2)) ∧ Aside0 (kq ≤ k2) ∧ Aside0 (wc.heap[gb328]? = some (.cells #[.int .i16 ((rd_T33 l1 x36_2).f0), .int .i8 ((rd_T33 l1 x36_2).f1), .int .i8 ((rd_T33 l1 x36_2).f2), .int .u8 ((rd_T33 l1 x36_2).f3), .int .i16 ((rd_T33 l1 x36_2).f4)] 33 (0, 0))) ∧ Aside0 (Below w.heap.size w wc))
                    case first =>
                      have H := HC22.out
                      clear HC22
                      by_cases c25 : (wrap64 ((rd_T33 l1 x36_2).f1)) = a2
                      · rw [if_pos c25] at H
                        have c25b0 : ((wrap64 ((rd_T33 l1 x36_2).f1)) == a2) = true := beq_iff_eq.mpr c25
                        have c25b1 : ((wrap64 ((rd_T33 l1 x36_2).f1)) != a2) = false := bne_eq_false_iff_eq.mpr c25
                        clear c25
                        (first | rw [c25b0] | (simp only [i64_w, i32_w]; rw [c25b0]) | skip)
                        have H' := Aside0.mk H
                        clear H
                        have hcz26_0 : w23.cell? ⟨gb328, 0, none⟩ = some (.int .i16 0) := (blk_cell BK328.out 0).trans rfl
                        have hcz26_1 : w23.cell? ⟨gb328, 1, none⟩ = some (.int .i8 0) := (blk_cell BK328.out 1).trans rfl
                        have hcz26_2 : w23.cell? ⟨gb328, 2, none⟩ = some (.int .i8 0) := (blk_cell BK328.out 2).trans rfl
                        have hcz26_3 : w23.cell? ⟨gb328, 3, none⟩ = some (.int .u8 0) := (blk_cell BK328.out 3).trans rfl
                        have hcz26_4 : w23.cell? ⟨gb328, 4, none⟩ = some (.int .i16 0) := (blk_cell BK328.out 4).trans rfl
                        have hfz26_0 := blk_frozen BK328.out 0
                        have hfz26_1 := blk_frozen BK328.out 1
                        have hfz26_2 := blk_frozen BK328.out 2
                        have hfz26_3 := blk_frozen BK328.out 3
                        have hfz26_4 := blk_frozen BK328.out 4
                        go_wp2
                        go_meet
                        case rel => exact ⟨_, (((wrap64 ((rd_T33 l1 x36_2).f2)) == a3)), (by first | rfl | (simp; done) | (simp [*]; done)), H', ⟨by have := HJ4.out; have := HK2.out; first | omega | exact Nat.le_refl _⟩, ⟨by (with_reducible repeat (first | refine blk_drewN ?_ _ | refine blk_drew ?_ | refine blk_alloc ?_ _)); refine blk_put (cs := #[.int .i16 ((rd_T33 l1 x36_2).f0), .int .i8 ((rd_T33 l1 x36_2).f1), .int .i8 ((rd_T33 l1 x36_2).f2), .int .u8 ((rd_T33 l1 x36_2).f3), .int .i16 0]) ?_ 4 _ rfl; (with_reducible repeat (first | refine blk_drewN ?_ _ | refine blk_drew ?_ | refine blk_alloc ?_ _)); refine blk_put (cs := #[.int .i16 ((rd_T33 l1 x36_2).f0), .int .i8 ((rd_T33 l1 x36_2).f1), .int .i8 ((rd_T33 l1 x36_2).f2), .int .u8 0, .int .i16 0]) ?_ 3 _ rfl; (with_reducible repeat (first | refine blk_drewN ?_ _ | refine blk_drew ?_ | refine blk_alloc ?_ _)); refine blk_put (cs := #[.int .i16 ((rd_T33 l1 x36_2).f0), .int .i8 ((rd_T33 l1 x36_2).f1), .int .i8 0, .int .u8 0, .int .i16 0]) ?_ 2 _ rfl; (with_reducible repeat (first | refine blk_drewN ?_ _ | refine blk_drew ?_ | refine blk_alloc ?_ _)); refine blk_put (cs := #[.int .i16 ((rd_T33 l1 x36_2).f0), .int .i8 0, .int .i8 0, .int .u8 0, .int .i16 0]) ?_ 1 _ rfl; (with_reducible repeat (first | refine blk_drewN ?_ _ | refine blk_drew ?_ | refine blk_alloc ?_ _)); refine blk_put (cs := #[.int .i16 0, .int .i8 0, .int .i8 0, .int .u8 0, .int .i16 0]) ?_ 0 _ rfl; (with_reducible repeat (first | refine blk_drewN ?_ _ | refine blk_drew ?_ | refine blk_alloc ?_ _)); exact BK328.out⟩, ⟨by repeat (first | (with_reducible first | exact HB.out | apply below_alloc | apply pw_below_drewN | apply below_drew1 | refine below_set ?_ GE328.out) | exact HB.out)⟩⟩
                      · rw [if_neg c25] at H
                        have c25b0 : ((wrap64 ((rd_T33 l1 x36_2).f1)) == a2) = false := beq_eq_false_iff_ne.mpr c25
                        have c25b1 : ((wrap64 ((rd_T33 l1 x36_2).f1)) != a2) = true := bne_iff_ne.mpr c25
                        (first | rw [c25b0] | (simp only [i64_w, i32_w]; rw [c25b0]) | skip)
                        have H' := Aside0.mk H
                        clear H
                        have hcz27_0 : w23.cell? ⟨gb328, 0, none⟩ = some (.int .i16 0) := (blk_cell BK328.out 0).trans rfl
                        have hcz27_1 : w23.cell? ⟨gb328, 1, none⟩ = some (.int .i8 0) := (blk_cell BK328.out 1).trans rfl
                        have hcz27_2 : w23.cell? ⟨gb328, 2, none⟩ = some (.int .i8 0) := (blk_cell BK328.out 2).trans rfl
                        have hcz27_3 : w23.cell? ⟨gb328, 3, none⟩ = some (.int .u8 0) := (blk_cell BK328.out 3).trans rfl
                        have hcz27_4 : w23.cell? ⟨gb328, 4, none⟩ = some (.int .i16 0) := (blk_cell BK328.out 4).trans rfl
                        have hfz27_0 := blk_frozen BK328.out 0
                        have hfz27_1 := blk_frozen BK328.out 1
                        have hfz27_2 := blk_frozen BK328.out 2
                        have hfz27_3 := blk_frozen BK328.out 3
                        have hfz27_4 := blk_frozen BK328.out 4
                        go_wp2
                        go_meet
                        case rel => exact ⟨_, (false), (by first | rfl | (simp; done) | (simp [*]; done)), H', ⟨by have := HJ4.out; have := HK2.out; first | omega | exact Nat.le_refl _⟩, ⟨by (with_reducible repeat (first | refine blk_drewN ?_ _ | refine blk_drew ?_ | refine blk_alloc ?_ _)); refine blk_put (cs := #[.int .i16 ((rd_T33 l1 x36_2).f0), .int .i8 ((rd_T33 l1 x36_2).f1), .int .i8 ((rd_T33 l1 x36_2).f2), .int .u8 ((rd_T33 l1 x36_2).f3), .int .i16 0]) ?_ 4 _ rfl; (with_reducible repeat (first | refine blk_drewN ?_ _ | refine blk_drew ?_ | refine blk_alloc ?_ _)); refine blk_put (cs := #[.int .i16 ((rd_T33 l1 x36_2).f0), .int .i8 ((rd_T33 l1 x36_2).f1), .int .i8 ((rd_T33 l1 x36_2).f2), .int .u8 0, .int .i16 0]) ?_ 3 _ rfl; (with_reducible repeat (first | refine blk_drewN ?_ _ | refine blk_drew ?_ | refine blk_alloc ?_ _)); refine blk_put (cs := #[.int .i16 ((rd_T33 l1 x36_2).f0), .int .i8 ((rd_T33 l1 x36_2).f1), .int .i8 0, .int .u8 0, .int .i16 0]) ?_ 2 _ rfl; (with_reducible repeat (first | refine blk_drewN ?_ _ | refine blk_drew ?_ | refine blk_alloc ?_ _)); refine blk_put (cs := #[.int .i16 ((rd_T33 l1 x36_2).f0), .int .i8 0, .int .i8 0, .int .u8 0, .int .i16 0]) ?_ 1 _ rfl; (with_reducible repeat (first | refine blk_drewN ?_ _ | refine blk_drew ?_ | refine blk_alloc ?_ _)); refine blk_put (cs := #[.int .i16 0, .int .i8 0, .int .i8 0, .int .u8 0, .int .i16 0]) ?_ 0 _ rfl; (with_reducible repeat (first | refine blk_drewN ?_ _ | refine blk_drew ?_ | refine blk_alloc ?_ _)); exact BK328.out⟩, ⟨by repeat (first | (with_reducible first | exact HB.out | apply below_alloc | apply pw_below_drewN | apply below_drew1 | refine below_set ?_ GE328.out) | exact HB.out)⟩⟩
                    case rest =>
                      clear HC22
                      try clear c1
                      try clear c2
                      try clear p2
                      try clear c3
                      try clear p3
                      try clear q3
                      try clear hx3
                      try clear c4
                      try clear c6
                      try clear p6
                      try clear c8
                      try clear c10
                      try clear c17
                      try clear c17b0
                      try clear c17b1
                      try clear c18
                      try clear c18b0
                      try clear c19
                      try clear c19b0
                      try clear c20
                      try clear c20b0
                      try clear c21
                      try clear c21b0
                      try clear c21b1
                      try clear c25
                      try clear c25b0
                      try clear c25b1
                      try clear hcz24_0
                      try clear hcz24_1
                      try clear hcz24_2
                      try clear hcz24_3
                      try clear hcz24_4
                      try clear hcz26_0
                      try clear hcz26_1
                      try clear hcz26_2
                      try clear hcz26_3
                      try clear hcz26_4
                      try clear hcz27_0
                      try clear hcz27_1
                      try clear hcz27_2
                      try clear hcz27_3
                      try clear hcz27_4
                      try clear hfz24_0
                      try clear hfz24_1
                      try clear hfz24_2
                      try clear hfz24_3
                      try clear hfz24_4
                      try clear hfz26_0
                      try clear hfz26_1
                      try clear hfz26_2
                      try clear hfz26_3
                      try clear hfz26_4
                      try clear hfz27_0
                      try clear hfz27_1
                      try clear hfz27_2
                      try clear hfz27_3
                      try clear hfz27_4
                      try clear hx327_0
                      try clear hx327_1
                      try clear hx327_2
                      try clear hx327_3
                      try clear hx327_4
                      try clear p2
                      try clear p327
                      try clear q327
                      obtain ⟨kq, x44_21, rfl, HA, HJ21, BK328, HB⟩ := hcut
                      cases kq with
                      | zero => exact absurd HA.out (by simp [impl_LentBetween.j2])
                      | succ kj21 =>
                        have H := HA.out
                        clear HA
                        simp only [impl_LentBetween.j2] at H
                        by_cases c28 : x44_21 = true
                        · subst c28
                          have H1 : (impl_LentBetween.l0 kj21 a2 a3 (wrap64 (x11_2 + (wrap64 (((rd_T33 l1 x36_2).f4))))) l1 (l1.length : Int) (wrap64 (x36_2 + 1))) = some (r1, r2) := by rw [if_pos rfl] at H; exact H
                          clear H
                          have H := H1
                          clear H1
                          have H' := Aside0.mk H
                          clear H
                          have hcz29_0 : wc.cell? ⟨gb328, 0, none⟩ = some (.int .i16 ((rd_T33 l1 x36_2).f0)) := (blk_cell BK328.out 0).trans rfl
                          have hcz29_1 : wc.cell? ⟨gb328, 1, none⟩ = some (.int .i8 ((rd_T33 l1 x36_2).f1)) := (blk_cell BK328.out 1).trans rfl
                          have hcz29_2 : wc.cell? ⟨gb328, 2, none⟩ = some (.int .i8 ((rd_T33 l1 x36_2).f2)) := (blk_cell BK328.out 2).trans rfl
                          have hcz29_3 : wc.cell? ⟨gb328, 3, none⟩ = some (.int .u8 ((rd_T33 l1 x36_2).f3)) := (blk_cell BK328.out 3).trans rfl
                          have hcz29_4 : wc.cell? ⟨gb328, 4, none⟩ = some (.int .i16 ((rd_T33 l1 x36_2).f4)) := (blk_cell BK328.out 4).trans rfl
                          have hfz29_0 := blk_frozen BK328.out 0
                          have hfz29_1 := blk_frozen BK328.out 1
                          have hfz29_2 := blk_frozen BK328.out 2
                          have hfz29_3 := blk_frozen BK328.out 3
                          have hfz29_4 := blk_frozen BK328.out 4
                          go_wp2
                          go_roundg kj21
                          case measure => have := HJ4.out; have := HK2.out; have := HJ21.out; omega
                          case rel => exact ⟨(wrap64 (x11_2 + (wrap64 (((rd_T33 l1 x36_2).f4))))), (wrap64 (x36_2 + 1)), (by first | rfl | (simp; done) | (simp [*]; done)), (by first | rfl | (simp; done) | (simp [*]; done)), H', ⟨by have := HJ4.out; have := HK2.out; have := HJ21.out; omega⟩, ⟨by repeat (first | (with_reducible first | exact HB.out | apply below_alloc | apply pw_below_drewN | apply below_drew1 | refine below_set ?_ GE328.out) | exact HB.out)⟩⟩
                        · replace c28 := Bool.eq_false_iff.mpr c28
                          subst c28
                          have H1 : (if (wrap64 (((rd_T33 l1 x36_2).f1))) = a3 then (if (wrap64 (((rd_T33 l1 x36_2).f2))) = a2 then (impl_LentBetween.l0 kj21 a2 a3 (wrap64 (x11_2 - (wrap64 (((rd_T33 l1 x36_2).f4))))) l1 (l1.length : Int) (wrap64 (x36_2 + 1))) else (impl_LentBetween.l0 kj21 a2 a3 x11_2 l1 (l1.length : Int) (wrap64 (x36_2 + 1)))) else (impl_LentBetween.l0 kj21 a2 a3 x11_2 l1 (l1.length : Int) (wrap64 (x36_2 + 1)))) = some (r1, r2) := by rw [if_neg (show ¬ (false = true) by decide)] at H; exact H
                          clear H
                          have H := H1
                          clear H1
                          by_cases c30 : (wrap64 (((rd_T33 l1 x36_2).f1))) = a3
                          · rw [if_pos c30] at H
                            have c30b0 : ((wrap64 (((rd_T33 l1 x36_2).f1))) == a3) = true := beq_iff_eq.mpr c30
                            have c30b1 : ((wrap64 (((rd_T33 l1 x36_2).f1))) != a3) = false := bne_eq_false_iff_eq.mpr c30
                            clear c30
                            by_cases c31 : (wrap64 (((rd_T33 l1 x36_2).f2))) = a2
                            · rw [if_pos c31] at H
                              have c31b0 : ((wrap64 (((rd_T33 l1 x36_2).f2))) == a2) = true := beq_iff_eq.mpr c31
                              have c31b1 : ((wrap64 (((rd_T33 l1 x36_2).f2))) != a2) = false := bne_eq_false_iff_eq.mpr c31
                              clear c31
                              have H' := Aside0.mk H
                              clear H
                              have hcz32_0 : wc.cell? ⟨gb328, 0, none⟩ = some (.int .i16 ((rd_T33 l1 x36_2).f0)) := (blk_cell BK328.out 0).trans rfl
                              have hcz32_1 : wc.cell? ⟨gb328, 1, none⟩ = some (.int .i8 ((rd_T33 l1 x36_2).f1)) := (blk_cell BK328.out 1).trans rfl
                              have hcz32_2 : wc.cell? ⟨gb328, 2, none⟩ = some (.int .i8 ((rd_T33 l1 x36_2).f2)) := (blk_cell BK328.out 2).trans rfl
                              have hcz32_3 : wc.cell? ⟨gb328, 3, none⟩ = some (.int .u8 ((rd_T33 l1 x36_2).f3)) := (blk_cell BK328.out 3).trans rfl
                              have hcz32_4 : wc.cell? ⟨gb328, 4, none⟩ = some (.int .i16 ((rd_T33 l1 x36_2).f4)) := (blk_cell BK328.out 4).trans rfl
                              have hfz32_0 := blk_frozen BK328.out 0
                              have hfz32_1 := blk_frozen BK328.out 1
                              have hfz32_2 := blk_frozen BK328.out 2
                              have hfz32_3 := blk_frozen BK328.out 3
                              have hfz32_4 := blk_frozen BK328.out 4
                              go_wp2
                              go_roundg kj21
                              case measure => have := HJ4.out; have := HK2.out; have := HJ21.out; omega
                              case rel => exact ⟨(wrap64 (x11_2 - (wrap64 (((rd_T33 l1 x36_2).f4))))), (wrap64 (x36_2 + 1)), (by first | rfl | (simp; done) | (simp [*]; done)), (by first | rfl | (simp; done) | (simp [*]; done)), H', ⟨by have := HJ4.out; have := HK2.out; have := HJ21.out; omega⟩, ⟨by repeat (first | (with_reducible first | exact HB.out | apply below_alloc | apply pw_below_drewN | apply below_drew1 | refine below_set ?_ GE328.out) | exact HB.out)⟩⟩
                            · rw [if_neg c31] at H
                              have c31b0 : ((wrap64 (((rd_T33 l1 x36_2).f2))) == a2) = false := beq_eq_false_iff_ne.mpr c31
                              have c31b1 : ((wrap64 (((rd_T33 l1 x36_2).f2))) != a2) = true := bne_iff_ne.mpr c31
                              have H' := Aside0.mk H
                              clear H
                              have hcz33_0 : wc.cell? ⟨gb328, 0, none⟩ = some (.int .i16 ((rd_T33 l1 x36_2).f0)) := (blk_cell BK328.out 0).trans rfl
                              have hcz33_1 : wc.cell? ⟨gb328, 1, none⟩ = some (.int .i8 ((rd_T33 l1 x36_2).f1)) := (blk_cell BK328.out 1).trans rfl
                              have hcz33_2 : wc.cell? ⟨gb328, 2, none⟩ = some (.int .i8 ((rd_T33 l1 x36_2).f2)) := (blk_cell BK328.out 2).trans rfl
                              have hcz33_3 : wc.cell? ⟨gb328, 3, none⟩ = some (.int .u8 ((rd_T33 l1 x36_2).f3)) := (blk_cell BK328.out 3).trans rfl
                              have hcz33_4 : wc.cell? ⟨gb328, 4, none⟩ = some (.int .i16 ((rd_T33 l1 x36_2).f4)) := (blk_cell BK328.out 4).trans rfl
                              have hfz33_0 := blk_frozen BK328.out 0
                              have hfz33_1 := blk_frozen BK328.out 1
                              have hfz33_2 := blk_frozen BK328.out 2
                              have hfz33_3 := blk_frozen BK328.out 3
                              have hfz33_4 := blk_frozen BK328.out 4
                              go_wp2
                              go_roundg kj21
                              case measure => have := HJ4.out; have := HK2.out; have := HJ21.out; omega
                              case rel => exact ⟨(x11_2), (wrap64 (x36_2 + 1)), (by first | rfl | (simp; done) | (simp [*]; done)), (by first | rfl | (simp; done) | (simp [*]; done)), H', ⟨by have := HJ4.out; have := HK2.out; have := HJ21.out; omega⟩, ⟨by repeat (first | (with_reducible first | exact HB.out | apply below_alloc | apply pw_below_drewN | apply below_drew1 | refine below_set ?_ GE328.out) | exact HB.out)⟩⟩
                          · rw [if_neg c30] at H
                            have c30b0 : ((wrap64 (((rd_T33 l1 x36_2).f1))) == a3) = false := beq_eq_false_iff_ne.mpr c30
                            have c30b1 : ((wrap64 (((rd_T33 l1 x36_2).f1))) != a3) = true := bne_iff_ne.mpr c30
                            have H' := Aside0.mk H
                            clear H
                            have hcz34_0 : wc.cell? ⟨gb328, 0, none⟩ = some (.int .i16 ((rd_T33 l1 x36_2).f0)) := (blk_cell BK328.out 0).trans rfl
                            have hcz34_1 : wc.cell? ⟨gb328, 1, none⟩ = some (.int .i8 ((rd_T33 l1 x36_2).f1)) := (blk_cell BK328.out 1).trans rfl
                            have hcz34_2 : wc.cell? ⟨gb328, 2, none⟩ = some (.int .i8 ((rd_T33 l1 x36_2).f2)) := (blk_cell BK328.out 2).trans rfl
                            have hcz34_3 : wc.cell? ⟨gb328, 3, none⟩ = some (.int .u8 ((rd_T33 l1 x36_2).f3)) := (blk_cell BK328.out 3).trans rfl
                            have hcz34_4 : wc.cell? ⟨gb328, 4, none⟩ = some (.int .i16 ((rd_T33 l1 x36_2).f4)) := (blk_cell BK328.out 4).trans rfl
                            have hfz34_0 := blk_frozen BK328.out 0
                            have hfz34_1 := blk_frozen BK328.out 1
                            have hfz34_2 := blk_frozen BK328.out 2
                            have hfz34_3 := blk_frozen BK328.out 3
                            have hfz34_4 := blk_frozen BK328.out 4
                            go_wp2
                            go_roundg kj21
                            case measure => have := HJ4.out; have := HK2.out; have := HJ21.out; omega
                            case rel => exact ⟨(x11_2), (wrap64 (x36_2 + 1)), (by first | rfl | (simp; done) | (simp [*]; done)), (by first | rfl | (simp; done) | (simp [*]; done)), H', ⟨by have := HJ4.out; have := HK2.out; have := HJ21.out; omega⟩, ⟨by repeat (first | (with_reducible first | exact HB.out | apply below_alloc | apply pw_below_drewN | apply below_drew1 | refine below_set ?_ GE328.out) | exact HB.out)⟩⟩
                  · rw [if_neg c21] at H
                    have c21b0 : (((rd_T33 l1 x36_2).f3) == 2) = false := beq_eq_false_iff_ne.mpr c21
                    have c21b1 : (((rd_T33 l1 x36_2).f3) != 2) = true := bne_iff_ne.mpr c21
                    have H' := Aside0.mk H
                    clear H
                    have p327 : 0 ≤ (x36_2 : Int) := of_decide_eq_true (by first | (with_reducible assumption) | assumption)
                    have q327 : x36_2 < (l1.length : Int) := of_decide_eq_true (by first | (with_reducible assumption) | assumption)
                    obtain ⟨ad327, e327, hx327_0, hx327_1, hx327_2, hx327_3, hx327_4⟩ := at_T33 HR1.out x36_2 p327 q327
                    cases e327
                    replace hx327_0 := (HB.out.cell (World.block_lt_of_cell? w _ hx327_0)).trans hx327_0
                    replace hx327_1 := (HB.out.cell (World.block_lt_of_cell? w _ hx327_1)).trans hx327_1
                    replace hx327_2 := (HB.out.cell (World.block_lt_of_cell? w _ hx327_2)).trans hx327_2
                    replace hx327_3 := (HB.out.cell (World.block_lt_of_cell? w _ hx327_3)).trans hx327_3
                    replace hx327_4 := (HB.out.cell (World.block_lt_of_cell? w _ hx327_4)).trans hx327_4
                    replace p327 := eq_true p327
                    replace q327 := eq_true q327
                    go_wp2_with (first | ((with_reducible refine gate_dst (N := 13) rfl ?_); refine box_event ?hg (N := 13) ?hd (cs := #[.int .i16 0, .int .i8 0, .int .i8 0, .int .u8 0, .int .i16 0]) (t := 33) ?hr ?_; (case hd => rfl); (case hg => rfl); (case hr => first | (go_simp; done) | (go_simp; rfl)); intro gb328 hg w35 hbox hb; have n0_ := Aside0.mk (below_step (by repeat (first | (with_reducible first | exact HB.out | apply below_alloc | apply pw_below_drewN | apply below_drew1) | exact HB.out)) hb); have n1_ := Aside0.mk (hbox); have n2_ := Aside0.mk ((by rw [hg]; exact (below_size (by repeat (first | (with_reducible first | exact HB.out | apply below_alloc | apply pw_below_drewN | apply below_drew1) | exact HB.out))) : w.heap.size ≤ gb328)); have n3_ := Aside0.mk ((by rw [hg]; exact (below_size (by repeat (first | (with_reducible first | exact HB.out | apply below_alloc | apply pw_below_drewN | apply below_drew1) | exact HB.out))) : w.heap.size ≤ gb328)); clear HB; have HB := n0_; have BK328 := n1_; have GW328 := n2_; have GE328 := n3_; clear n0_ n1_ n2_ n3_; clear hb hbox hg; have hcz36_0 : w35.cell? ⟨gb328, 0, none⟩ = some (.int .i16 0) := (blk_cell BK328.out 0).trans rfl; have hcz36_1 : w35.cell? ⟨gb328, 1, none⟩ = some (.int .i8 0) := (blk_cell BK328.out 1).trans rfl; have hcz36_2 : w35.cell? ⟨gb328, 2, none⟩ = some (.int .i8 0) := (blk_cell BK328.out 2).trans rfl; have hcz36_3 : w35.cell? ⟨gb328, 3, none⟩ = some (.int .u8 0) := (blk_cell BK328.out 3).trans rfl; have hcz36_4 : w35.cell? ⟨gb328, 4, none⟩ = some (.int .i16 0) := (blk_cell BK328.out 4).trans rfl; have hfz36_0 := blk_frozen BK328.out 0; have hfz36_1 := blk_frozen BK328.out 1; have hfz36_2 := blk_frozen BK328.out 2; have hfz36_3 := blk_frozen BK328.out 3; have hfz36_4 := blk_frozen BK328.out 4))
                    go_roundg k2
                    case measure => have := HJ4.out; have := HK2.out; omega
                    case rel => exact ⟨(x11_2), (wrap64 (x36_2 + 1)), (by first | rfl | (simp; done) | (simp [*]; done)), (by first | rfl | (simp; done) | (simp [*]; done)), H', ⟨by have := HJ4.out; have := HK2.out; omega⟩, ⟨by repeat (first | (with_reducible first | exact HB.out | apply below_alloc | apply pw_below_drewN | apply below_drew1 | refine below_set ?_ GE328.out) | exact HB.out)⟩⟩
                · rw [if_neg c20] at H
                  exact absurd H (by simp)
              · rw [if_neg c19] at H
                exact absurd H (by simp)
            · rw [if_neg c18] at H
              have c18b0 : decide (x36_2 < (l1.length : Int)) = false := decide_eq_false c18
              clear c18
              simp only [Option.some.injEq, Prod.mk.injEq] at H
              obtain ⟨rfl, rfl⟩ := H
              go_wp2
              go_ret2
              exact ⟨by first | rfl | (simp [errW_none, errW_some] <;> rfl) | (simp [*, errW_none, errW_some] <;> rfl), by repeat (first | (with_reducible first | exact HB.out | apply below_alloc | apply pw_below_drewN | apply below_drew1) | exact HB.out)⟩
      · rw [if_neg c17] at H
        have c17b0 : (x10_4 == 0) = false := beq_eq_false_iff_ne.mpr c17
        have c17b1 : (x10_4 != 0) = true := bne_iff_ne.mpr c17
        simp only [Option.some.injEq, Prod.mk.injEq] at H
        obtain ⟨rfl, rfl⟩ := H
        go_wp2
        go_ret2
        exact ⟨by first | rfl | (simp [errW_none, errW_some] <;> rfl) | (simp [*, errW_none, errW_some] <;> rfl), by repeat (first | (with_reducible first | exact HB.out | apply below_alloc | apply pw_below_drewN | apply below_drew1) | exact HB.out)⟩

end Go.Proofs.Ytodlaafabnmbhaa.G
