/- impl.apply, walked by hand. Printed by wip/tools/ap.py. -/
import Derived.Test.YtncbgnlojabpfaaFApLib
import Derived.Test.YtncbgnlojabpfaaFAreHeld
import Derived.Test.YtncbgnlojabpfaaPl
import Derived.BigQuiet
import Derived.BigRegion
import Derived.ChangeAlike
namespace Go.Proofs.Ytncbgnlojabpfaa.G
open Go.RowKit Go.Proofs.YtncbgnlojabpfaaW.PrintWords Go.Proofs.YtncbgnlojabpfaaW.PrintLast Go.Proofs.YtncbgnlojabpfaaW.PrintMore
attribute [local go_sem] max2_int min2_int max_two min_two max_three min_three max_four min_four   -- for this text's walks alone
set_option linter.unusedVariables false
set_option linter.unusedSimpArgs false

open Go.Proofs.Ytncbgnlojabpfaa.Wk Go.Proofs.Ytncbgnlojabpfaa.Pl
namespace Ap
set_option maxHeartbeats 8000000 in
set_option maxRecDepth 100000 in
theorem w0 (A1 : Option Addr) (c1 : Nat) (l1 : List H) (p0 p1 e0 e4 : Int) (f t : Nat) (r1 : List H) (r2 : Int) (w : World) (hr : Kd.C k71 w A1 l1.length l1) (hc1 : l1.length ≤ c1) (hl : l1.length ≤ 6) (hf : f < l1.length) (ht : t < l1.length) (hft : f ≠ t)
    (h : (if (l1.getD f z71).f0 < wrap64 e4 then ([], 4) else Ap.moveA 0 l1 f t (wrap64 e4) (wrap64 p0)) = (r1, r2)) :
    Calls Try.prog 46 #[.agg #[.int .i16 p0, .int .i16 p1], .slice A1 l1.length c1, .agg #[.int .i16 e0, .int .i8 f, .int .i8 t, .int .u8 0, .int .i16 e4]] w fun e w' => ∃ v : Value, e = .returned (.tuple #[v, .int .i64 r2]) ∧ Kd.R k71 71 w' w.heap.size (fun _ => True) v r1 ∧ Below w.heap.size w w' := by
  have HCL := Lib.hid (show cloneHold.f l1 = some l1 by unfold cloneHold.f; rw [if_pos (by omega)])
  have HR := Aside0.mk hr
  clear hr
  have Hh := Lib.hid h
  clear h
  obtain ⟨F, hF⟩ : ∃ F, F = l1.getD f z71 := ⟨_, rfl⟩
  have HF := Lib.hid hF
  clear hF
  obtain ⟨T, hT⟩ : ∃ T, T = l1.getD t z71 := ⟨_, rfl⟩
  have HT := Lib.hid hT
  clear hT
  have hf1 : decide ((f : Int) < (l1.length : Int)) = true := decide_eq_true (by omega)
  have hfz : decide (f < l1.length) = true := decide_eq_true hf
  have hfz2 := hf
  have ht1 : decide ((t : Int) < (l1.length : Int)) = true := decide_eq_true (by omega)
  have htz : decide (t < l1.length) = true := decide_eq_true ht
  go_enter Try.func46, Try.ntmps46
  go_wp2
  have B0 : Aside0 (Below w.heap.size w ((w.alloc (.cells #[.int .i16 p0, .int .i16 p1] 33)).alloc (.cells #[.int .i16 e0, .int .i8 (f : Int), .int .i8 (t : Int), .int .u8 0, .int .i16 e4] 36)).drew) := ⟨below_drew1 (((Below.refl _ _).alloc (Nat.le_refl _) _).alloc (by simp) _)⟩
  have x4 : ((w.alloc (.cells #[.int .i16 p0, .int .i16 p1] 33)).alloc (.cells #[.int .i16 e0, .int .i8 (f : Int), .int .i8 (t : Int), .int .u8 0, .int .i16 e4] 36)).drew.cell? ⟨w.heap.size + 1, 4, none⟩ = some (.int .i16 e4) := by simp
  refine start_ (n := 7) (S := fun w' => w'.cell? ⟨w.heap.size + 1, 4, none⟩ = some (.int .i16 e4)) (ds := []) #[false, false, false, false, false, false, false] (by kernel_rfl) rfl rfl (x4) (fun hHeld => ?_)
  refine pure_ (i := 0) (N := some 14) (v := ?_) (a' := ?_) #[true, false, false, false, false, false, false] rfl rfl (by kernel_rfl) (fun _ _ _ h => h) (Or.inl ⟨by rfl, ?_⟩) ?_ ?_
  rotate_left
  · intro w'
    go_simp
    with_reducible rfl
  rotate_left
  · simp only [Act.put, List.setIfInBounds_toArray, List.set_cons_zero, List.set_cons_succ, i64_w, i32_w]
    rfl
  refine pure_ (i := 2) (N := some 16) (v := ?_) (a' := ?_) #[true, false, true, false, false, false, false] rfl rfl (by kernel_rfl) (fun _ _ _ h => h) (Or.inl ⟨by rfl, ?_⟩) ?_ ?_
  rotate_left
  · intro w'
    go_simp
    with_reducible rfl
  rotate_left
  · simp only [Act.put, List.setIfInBounds_toArray, List.set_cons_zero, List.set_cons_succ, i64_w, i32_w]
    rfl
  refine take_ (i := 3) (N := some 17) (v := ?_) (a' := ?_) #[true, false, true, true, false, false, false] rfl rfl (by kernel_rfl) (fun _ _ _ h => h) (Or.inl ⟨by rfl, ?_⟩) hHeld ?_ ?_
  rotate_left
  · intro w' s0
    go_simp
    with_reducible rfl
  rotate_left
  · simp only [Act.put, List.setIfInBounds_toArray, List.set_cons_zero, List.set_cons_succ, i64_w, i32_w]
    rfl
  refine pure_ (i := 4) (N := some 18) (v := ?_) (a' := ?_) #[true, false, true, true, true, false, false] rfl rfl (by kernel_rfl) (fun _ _ _ h => h) (Or.inl ⟨by rfl, ?_⟩) ?_ ?_
  rotate_left
  · intro w'
    go_simp
    with_reducible rfl
  rotate_left
  · simp only [Act.put, List.setIfInBounds_toArray, List.set_cons_zero, List.set_cons_succ, i64_w, i32_w]
    rfl
  refine one_ (i := 1) (N := some 15) #[true, true, true, true, true, false, false] rfl rfl (by kernel_rfl) (by decide) (fun K hK => ?_)
  refine goes_ Try.func80 (by kernel_rfl) rfl #[.slice A1 l1.length c1] (by rfl) rfl rfl (by simp only [List.map_toArray, List.map_cons, List.map_nil]; rfl) ?_
  with_reducible refine (cloneHold.calls A1 c1 l1 l1 _ (Kd.C_below HR.out B0.out) hc1 HCL.out).mono ?_
  rintro e w3 ⟨v0, rfl, hR, hb⟩
  refine ⟨_, rfl, ?_⟩
  refine hK.out _ _ (pw_cell_below hb hHeld) (fun hHeld => ?_)
  clear hK K
  have hR2 := Kd.R_lower hR (show w.heap.size + 2 ≤ _ by simp)
  clear hR
  obtain ⟨g, cap, rfl, -, -, -⟩ := Kd.R_form hR2 (show 0 < l1.length by omega)
  have hS3 : Ap.St w w3 g cap l1 p0 p1 f t 0 e4 := ⟨hR2, below_then B0.out B0.out.size hb, pw_cell_below hb (by simp), pw_cell_below hb (by simp), pw_cell_below hb (by simp), pw_cell_below hb (by simp), pw_cell_below hb (by simp), pw_cell_below hb (by simp)⟩
  clear hR2 hb x4 B0 hHeld
  refine norm_ (a' := ?_) ?_ ?_
  rotate_left
  · show Act.put _ (some 15) _ = _
    simp only [Act.put, List.setIfInBounds_toArray, List.set_cons_zero, List.set_cons_succ, i64_w, i32_w]
    rfl
  refine pure_ (i := 5) (N := some 8) (v := ?_) (a' := ?_) #[true, true, true, true, true, true, false] rfl rfl (by kernel_rfl) (fun _ _ _ h => h) (Or.inl ⟨by rfl, ?_⟩) ?_ ?_
  rotate_left
  · intro w'
    go_simp
    with_reducible rfl
  rotate_left
  · simp only [Act.put, List.setIfInBounds_toArray, List.set_cons_zero, List.set_cons_succ, i64_w, i32_w]
    rfl
  refine pure_ (i := 6) (N := some 9) (v := ?_) (a' := ?_) #[true, true, true, true, true, true, true] rfl rfl (by kernel_rfl) (fun _ _ _ h => h) (Or.inl ⟨by rfl, ?_⟩) ?_ ?_
  rotate_left
  · intro w'
    go_simp
    with_reducible rfl
  rotate_left
  · simp only [Act.put, List.setIfInBounds_toArray, List.set_cons_zero, List.set_cons_succ, i64_w, i32_w]
    rfl
  refine done_ (by kernel_rfl) ?_
  have c0_hS3 := hS3.c0; have c1_hS3 := hS3.c1; have d1_hS3 := hS3.d1; have d2_hS3 := hS3.d2; have d3_hS3 := hS3.d3; have d4_hS3 := hS3.d4
  go_wp2
  go_quiet (fail)
  clear c0_hS3 c1_hS3 d1_hS3 d2_hS3 d3_hS3 d4_hS3
  first
    | refine Ap.reletE (F := fun w' => Ap.St w w' g cap l1 p0 p1 f t 0 e4) (hS3.drewN _) ?_
    | refine Ap.reletI (F := fun w' => Ap.St w w' g cap l1 p0 p1 f t 0 e4) (hS3.drewN _) ?_
    | refine Ap.reletC (F := fun w' => Ap.St w w' g cap l1 p0 p1 f t 0 e4) (hS3.drewN _) ?_
  rintro w4 hS4
  clear hS3
  have c0_hS4 := hS4.c0; have c1_hS4 := hS4.c1; have d1_hS4 := hS4.d1; have d2_hS4 := hS4.d2; have d3_hS4 := hS4.d3; have d4_hS4 := hS4.d4
  obtain ⟨x0, x1, x2, x3, x4, fr_x⟩ := Ap.cells hS4.r (hf)
  rw [← HF.out] at x0 x1 x2 x3 x4
  go_wp2
  go_quiet (fail)
  clear c0_hS4 c1_hS4 d1_hS4 d2_hS4 d3_hS4 d4_hS4
  clear x0 x1 x2 x3 x4 fr_x
  first
    | refine Ap.reletE (F := fun w' => Ap.St w w' g cap l1 p0 p1 f t 0 e4) (hS4.drewN _) ?_
    | refine Ap.reletI (F := fun w' => Ap.St w w' g cap l1 p0 p1 f t 0 e4) (hS4.drewN _) ?_
    | refine Ap.reletC (F := fun w' => Ap.St w w' g cap l1 p0 p1 f t 0 e4) (hS4.drewN _) ?_
  rintro w5 hS5
  clear hS4
  have c0_hS5 := hS5.c0; have c1_hS5 := hS5.c1; have d1_hS5 := hS5.d1; have d2_hS5 := hS5.d2; have d3_hS5 := hS5.d3; have d4_hS5 := hS5.d4
  obtain ⟨x0, x1, x2, x3, x4, fr_x⟩ := Ap.cells hS5.r (hf)
  rw [← HF.out] at x0 x1 x2 x3 x4
  cases hlt : decide (F.f0 < wrap64 e4)
  case true =>
    have h := Hh.out
    rw [HF.out] at hlt
    rw [if_pos (of_decide_eq_true hlt)] at h
    rw [← HF.out] at hlt
    obtain ⟨rfl, rfl⟩ := Prod.mk.inj h
    clear h Hh
    go_wp2
    go_ret2
    exact ⟨_, rfl, Kd.R_nil _ _ _ _ _, hS5.b⟩
  have h := Hh.out
  rw [HF.out] at hlt
  rw [if_neg (of_decide_eq_false hlt)] at h
  rw [← HF.out] at hlt
  clear Hh
  have Hh := Lib.hid h
  clear h
  obtain ⟨y0, y1, y2, y3, y4, -⟩ := Ap.cells hS5.r ht
  rw [← HT.out] at y0 y1 y2 y3 y4
  go_wp2
  go_region
  clear c0_hS5 c1_hS5 d1_hS5 d2_hS5 d3_hS5 d4_hS5
  clear x0 x1 x2 x3 x4 fr_x
  clear y0 y1 y2 y3 y4
  have s1 := hS5.at (Ap.put0 hS5.r hf (wrap64 (F.f0 - wrap64 e4)) HF.out.symm)
  have s2 := s1.at (Ap.put0 (y := T) s1.r (by rw [List.length_set]; exact ht) (wrap64 (T.f0 + wrap64 e4)) (by rw [Ap.other _ hft]; exact HT.out.symm))
  first
    | refine Ap.reletE (F := fun w' => Ap.St w w' g cap ((l1.set f (⟨wrap64 (F.f0 - wrap64 e4), F.f1, F.f2, F.f3, F.f4⟩ : H)).set t (⟨wrap64 (T.f0 + wrap64 e4), T.f1, T.f2, T.f3, T.f4⟩ : H)) p0 p1 f t 0 e4) (s2.drew) ?_
    | refine Ap.reletI (F := fun w' => Ap.St w w' g cap ((l1.set f (⟨wrap64 (F.f0 - wrap64 e4), F.f1, F.f2, F.f3, F.f4⟩ : H)).set t (⟨wrap64 (T.f0 + wrap64 e4), T.f1, T.f2, T.f3, T.f4⟩ : H)) p0 p1 f t 0 e4) (s2.drew) ?_
    | refine Ap.reletC (F := fun w' => Ap.St w w' g cap ((l1.set f (⟨wrap64 (F.f0 - wrap64 e4), F.f1, F.f2, F.f3, F.f4⟩ : H)).set t (⟨wrap64 (T.f0 + wrap64 e4), T.f1, T.f2, T.f3, T.f4⟩ : H)) p0 p1 f t 0 e4) (s2.drew) ?_
  rintro w6 hS6
  clear s1 s2 hS5
  obtain ⟨F1, hF1⟩ : ∃ y, y = (⟨wrap64 (F.f0 - wrap64 e4), F.f1, F.f2, F.f3, F.f4⟩ : H) := ⟨_, rfl⟩
  obtain ⟨T1, hT1⟩ : ∃ y, y = (⟨wrap64 (T.f0 + wrap64 e4), T.f1, T.f2, T.f3, T.f4⟩ : H) := ⟨_, rfl⟩
  rw [← hF1, ← hT1] at hS6
  have hgF : ((l1.set f F1).set t T1).getD f z71 = F1 := by rw [Ap.other _ (Ne.symm hft)]; exact getD_set_self hf _ _
  have hgT : ((l1.set f F1).set t T1).getD t z71 = T1 := getD_set_self (by rw [List.length_set]; exact ht) _ _
  have HF1 := Lib.hid hF1; have HT1 := Lib.hid hT1; clear hF1 hT1; have HgF := Lib.hid hgF; have HgT := Lib.hid hgT; clear hgF hgT
  have c0_hS6 := hS6.c0; have c1_hS6 := hS6.c1; have d1_hS6 := hS6.d1; have d2_hS6 := hS6.d2; have d3_hS6 := hS6.d3; have d4_hS6 := hS6.d4
  obtain ⟨x0, x1, x2, x3, x4, fr_x⟩ := Ap.cells hS6.r (by simp only [List.length_set]; exact hf)
  rw [HgF.out] at x0 x1 x2 x3 x4
  obtain ⟨y0, y1, y2, y3, y4, fr_y⟩ := Ap.cells hS6.r (by simp only [List.length_set]; exact ht)
  rw [HgT.out] at y0 y1 y2 y3 y4
  go_wp2
  go_region
  clear c0_hS6 c1_hS6 d1_hS6 d2_hS6 d3_hS6 d4_hS6
  clear x0 x1 x2 x3 x4 fr_x
  clear y0 y1 y2 y3 y4 fr_y
  have s1 := hS6.at (Ap.put4 hS6.r (by simp only [List.length_set]; exact hf) (wrap64 (F1.f4 + wrap64 (wrap64 e4 * wrap64 p0))) HgF.out)
  have s2 := s1.at (Ap.put4 (y := T1) s1.r (by simp only [List.length_set]; exact ht) (wrap64 (T1.f4 - wrap64 (wrap64 e4 * wrap64 p0))) (by rw [Ap.other _ hft]; exact HgT.out))
  first
    | refine Ap.reletE (F := fun w' => Ap.St w w' g cap ((((l1.set f F1).set t T1).set f (⟨F1.f0, F1.f1, F1.f2, F1.f3, wrap64 (F1.f4 + wrap64 (wrap64 e4 * wrap64 p0))⟩ : H)).set t (⟨T1.f0, T1.f1, T1.f2, T1.f3, wrap64 (T1.f4 - wrap64 (wrap64 e4 * wrap64 p0))⟩ : H)) p0 p1 f t 0 e4) (s2.drew) ?_
    | refine Ap.reletI (F := fun w' => Ap.St w w' g cap ((((l1.set f F1).set t T1).set f (⟨F1.f0, F1.f1, F1.f2, F1.f3, wrap64 (F1.f4 + wrap64 (wrap64 e4 * wrap64 p0))⟩ : H)).set t (⟨T1.f0, T1.f1, T1.f2, T1.f3, wrap64 (T1.f4 - wrap64 (wrap64 e4 * wrap64 p0))⟩ : H)) p0 p1 f t 0 e4) (s2.drew) ?_
    | refine Ap.reletC (F := fun w' => Ap.St w w' g cap ((((l1.set f F1).set t T1).set f (⟨F1.f0, F1.f1, F1.f2, F1.f3, wrap64 (F1.f4 + wrap64 (wrap64 e4 * wrap64 p0))⟩ : H)).set t (⟨T1.f0, T1.f1, T1.f2, T1.f3, wrap64 (T1.f4 - wrap64 (wrap64 e4 * wrap64 p0))⟩ : H)) p0 p1 f t 0 e4) (s2.drew) ?_
  rintro w7 hS7
  clear s1 s2 hS6
  have he : ((((l1.set f F1).set t T1).set f (⟨F1.f0, F1.f1, F1.f2, F1.f3, wrap64 (F1.f4 + wrap64 (wrap64 e4 * wrap64 p0))⟩ : H)).set t (⟨T1.f0, T1.f1, T1.f2, T1.f3, wrap64 (T1.f4 - wrap64 (wrap64 e4 * wrap64 p0))⟩ : H)) = (l1.set f (⟨F1.f0, F1.f1, F1.f2, F1.f3, wrap64 (F1.f4 + wrap64 (wrap64 e4 * wrap64 p0))⟩ : H)).set t (⟨T1.f0, T1.f1, T1.f2, T1.f3, wrap64 (T1.f4 - wrap64 (wrap64 e4 * wrap64 p0))⟩ : H) := Ap.both hft _ _ _ _
  rw [he] at hS7
  clear he
  obtain ⟨F2, hF2⟩ : ∃ y, y = (⟨F1.f0, F1.f1, F1.f2, F1.f3, wrap64 (F1.f4 + wrap64 (wrap64 e4 * wrap64 p0))⟩ : H) := ⟨_, rfl⟩
  obtain ⟨T2, hT2⟩ : ∃ y, y = (⟨T1.f0, T1.f1, T1.f2, T1.f3, wrap64 (T1.f4 - wrap64 (wrap64 e4 * wrap64 p0))⟩ : H) := ⟨_, rfl⟩
  rw [← hF2, ← hT2] at hS7
  rw [HF1.out] at hF2; rw [HT1.out] at hT2; clear HF1 HT1 HgF HgT
  have hgF : ((l1.set f F2).set t T2).getD f z71 = F2 := by rw [Ap.other _ (Ne.symm hft)]; exact getD_set_self hf _ _
  have hgT : ((l1.set f F2).set t T2).getD t z71 = T2 := getD_set_self (by rw [List.length_set]; exact ht) _ _
  have HF1 := Lib.hid hF2; have HT1 := Lib.hid hT2; clear hF2 hT2; have HgF := Lib.hid hgF; have HgT := Lib.hid hgT; clear hgF hgT
  have c0_hS7 := hS7.c0; have c1_hS7 := hS7.c1; have d1_hS7 := hS7.d1; have d2_hS7 := hS7.d2; have d3_hS7 := hS7.d3; have d4_hS7 := hS7.d4
  obtain ⟨x0, x1, x2, x3, x4, fr_x⟩ := Ap.cells hS7.r (by simp only [List.length_set]; exact hf)
  rw [HgF.out] at x0 x1 x2 x3 x4
  obtain ⟨y0, y1, y2, y3, y4, fr_y⟩ := Ap.cells hS7.r (by simp only [List.length_set]; exact ht)
  rw [HgT.out] at y0 y1 y2 y3 y4
  have hres : (if (hB F2 && hB T2) = true then (((l1.set f F2).set t T2), (0 : Int)) else ([], 3)) = (r1, r2) := by rw [HF1.out, HT1.out, HF.out, HT.out]; exact Hh.out
  clear Hh HF1 HgF HF HT1 HgT HT
  cases bF2 : hB F2
  · simp only [bF2, Bool.false_and, if_neg Bool.false_ne_true] at hres
    obtain ⟨rfl, rfl⟩ := Prod.mk.inj hres
    clear hres
    have BF2 := Lib.hid (show heldB F2.f0 F2.f1 F2.f2 F2.f3 F2.f4 = false from bF2)
    clear bF2
    go_wp2_with (fail "a call")
    refine (impl_isHeld.calls F2.f0 F2.f1 F2.f2 F2.f3 F2.f4 false _ ((isHeld_tells ..).trans (congrArg some BF2.out))).mono ?_
    rintro e wa ⟨rfl, ha⟩
    go_wp2
    go_ret2
    exact ⟨_, rfl, Kd.R_nil _ _ _ _ _, below_then hS7.b hS7.b.size ha⟩
  · cases bT2 : hB T2
    · simp only [bF2, bT2, Bool.and_false, if_neg Bool.false_ne_true] at hres
      obtain ⟨rfl, rfl⟩ := Prod.mk.inj hres
      clear hres
      have BF2 := Lib.hid (show heldB F2.f0 F2.f1 F2.f2 F2.f3 F2.f4 = true from bF2)
      clear bF2
      have BT2 := Lib.hid (show heldB T2.f0 T2.f1 T2.f2 T2.f3 T2.f4 = false from bT2)
      clear bT2
      go_wp2_with (fail "a call")
      refine (impl_isHeld.calls F2.f0 F2.f1 F2.f2 F2.f3 F2.f4 true _ ((isHeld_tells ..).trans (congrArg some BF2.out))).mono ?_
      rintro e wa ⟨rfl, ha⟩
      replace y0 := pw_cell_below ha y0
      replace y1 := pw_cell_below ha y1
      replace y2 := pw_cell_below ha y2
      replace y3 := pw_cell_below ha y3
      replace y4 := pw_cell_below ha y4
      go_wp2_with (fail "a call")
      refine (impl_isHeld.calls T2.f0 T2.f1 T2.f2 T2.f3 T2.f4 false _ ((isHeld_tells ..).trans (congrArg some BT2.out))).mono ?_
      rintro e wb ⟨rfl, hb⟩
      go_wp2
      go_ret2
      exact ⟨_, rfl, Kd.R_nil _ _ _ _ _, below_then (below_then hS7.b hS7.b.size ha) (below_then hS7.b hS7.b.size ha).size hb⟩
    · simp only [bF2, bT2, Bool.and_true, if_true] at hres
      obtain ⟨rfl, rfl⟩ := Prod.mk.inj hres
      clear hres
      have BF2 := Lib.hid (show heldB F2.f0 F2.f1 F2.f2 F2.f3 F2.f4 = true from bF2)
      clear bF2
      have BT2 := Lib.hid (show heldB T2.f0 T2.f1 T2.f2 T2.f3 T2.f4 = true from bT2)
      clear bT2
      go_wp2_with (fail "a call")
      refine (impl_isHeld.calls F2.f0 F2.f1 F2.f2 F2.f3 F2.f4 true _ ((isHeld_tells ..).trans (congrArg some BF2.out))).mono ?_
      rintro e wa ⟨rfl, ha⟩
      replace y0 := pw_cell_below ha y0
      replace y1 := pw_cell_below ha y1
      replace y2 := pw_cell_below ha y2
      replace y3 := pw_cell_below ha y3
      replace y4 := pw_cell_below ha y4
      go_wp2_with (fail "a call")
      refine (impl_isHeld.calls T2.f0 T2.f1 T2.f2 T2.f3 T2.f4 true _ ((isHeld_tells ..).trans (congrArg some BT2.out))).mono ?_
      rintro e wb ⟨rfl, hb⟩
      have hr_ := Kd.R_lower (Kd.R_below (Kd.R_below hS7.r ha) hb) (show w.heap.size ≤ w.heap.size + 2 by omega)
      simp only [List.length_set] at hr_
      go_wp2
      go_ret2
      exact ⟨_, rfl, hr_, below_then (below_then hS7.b hS7.b.size ha) (below_then hS7.b hS7.b.size ha).size hb⟩
set_option maxHeartbeats 8000000 in
set_option maxRecDepth 100000 in
theorem w1 (A1 : Option Addr) (c1 : Nat) (l1 : List H) (p0 p1 e0 e4 : Int) (f t : Nat) (r1 : List H) (r2 : Int) (w : World) (hr : Kd.C k71 w A1 l1.length l1) (hc1 : l1.length ≤ c1) (hl : l1.length ≤ 6) (hf : f < l1.length) (ht : t < l1.length) (hft : f ≠ t)
    (h : (if (l1.getD f z71).f1 < wrap64 e4 then ([], 4) else Ap.moveA 1 l1 f t (wrap64 e4) (wrap64 p0)) = (r1, r2)) :
    Calls Try.prog 46 #[.agg #[.int .i16 p0, .int .i16 p1], .slice A1 l1.length c1, .agg #[.int .i16 e0, .int .i8 f, .int .i8 t, .int .u8 1, .int .i16 e4]] w fun e w' => ∃ v : Value, e = .returned (.tuple #[v, .int .i64 r2]) ∧ Kd.R k71 71 w' w.heap.size (fun _ => True) v r1 ∧ Below w.heap.size w w' := by
  have HCL := Lib.hid (show cloneHold.f l1 = some l1 by unfold cloneHold.f; rw [if_pos (by omega)])
  have HR := Aside0.mk hr
  clear hr
  have Hh := Lib.hid h
  clear h
  obtain ⟨F, hF⟩ : ∃ F, F = l1.getD f z71 := ⟨_, rfl⟩
  have HF := Lib.hid hF
  clear hF
  obtain ⟨T, hT⟩ : ∃ T, T = l1.getD t z71 := ⟨_, rfl⟩
  have HT := Lib.hid hT
  clear hT
  have hf1 : decide ((f : Int) < (l1.length : Int)) = true := decide_eq_true (by omega)
  have hfz : decide (f < l1.length) = true := decide_eq_true hf
  have hfz2 := hf
  have ht1 : decide ((t : Int) < (l1.length : Int)) = true := decide_eq_true (by omega)
  have htz : decide (t < l1.length) = true := decide_eq_true ht
  go_enter Try.func46, Try.ntmps46
  go_wp2
  have B0 : Aside0 (Below w.heap.size w ((w.alloc (.cells #[.int .i16 p0, .int .i16 p1] 33)).alloc (.cells #[.int .i16 e0, .int .i8 (f : Int), .int .i8 (t : Int), .int .u8 1, .int .i16 e4] 36)).drew) := ⟨below_drew1 (((Below.refl _ _).alloc (Nat.le_refl _) _).alloc (by simp) _)⟩
  have x4 : ((w.alloc (.cells #[.int .i16 p0, .int .i16 p1] 33)).alloc (.cells #[.int .i16 e0, .int .i8 (f : Int), .int .i8 (t : Int), .int .u8 1, .int .i16 e4] 36)).drew.cell? ⟨w.heap.size + 1, 4, none⟩ = some (.int .i16 e4) := by simp
  refine start_ (n := 7) (S := fun w' => w'.cell? ⟨w.heap.size + 1, 4, none⟩ = some (.int .i16 e4)) (ds := []) #[false, false, false, false, false, false, false] (by kernel_rfl) rfl rfl (x4) (fun hHeld => ?_)
  refine pure_ (i := 0) (N := some 14) (v := ?_) (a' := ?_) #[true, false, false, false, false, false, false] rfl rfl (by kernel_rfl) (fun _ _ _ h => h) (Or.inl ⟨by rfl, ?_⟩) ?_ ?_
  rotate_left
  · intro w'
    go_simp
    with_reducible rfl
  rotate_left
  · simp only [Act.put, List.setIfInBounds_toArray, List.set_cons_zero, List.set_cons_succ, i64_w, i32_w]
    rfl
  refine pure_ (i := 2) (N := some 16) (v := ?_) (a' := ?_) #[true, false, true, false, false, false, false] rfl rfl (by kernel_rfl) (fun _ _ _ h => h) (Or.inl ⟨by rfl, ?_⟩) ?_ ?_
  rotate_left
  · intro w'
    go_simp
    with_reducible rfl
  rotate_left
  · simp only [Act.put, List.setIfInBounds_toArray, List.set_cons_zero, List.set_cons_succ, i64_w, i32_w]
    rfl
  refine take_ (i := 3) (N := some 17) (v := ?_) (a' := ?_) #[true, false, true, true, false, false, false] rfl rfl (by kernel_rfl) (fun _ _ _ h => h) (Or.inl ⟨by rfl, ?_⟩) hHeld ?_ ?_
  rotate_left
  · intro w' s0
    go_simp
    with_reducible rfl
  rotate_left
  · simp only [Act.put, List.setIfInBounds_toArray, List.set_cons_zero, List.set_cons_succ, i64_w, i32_w]
    rfl
  refine pure_ (i := 4) (N := some 18) (v := ?_) (a' := ?_) #[true, false, true, true, true, false, false] rfl rfl (by kernel_rfl) (fun _ _ _ h => h) (Or.inl ⟨by rfl, ?_⟩) ?_ ?_
  rotate_left
  · intro w'
    go_simp
    with_reducible rfl
  rotate_left
  · simp only [Act.put, List.setIfInBounds_toArray, List.set_cons_zero, List.set_cons_succ, i64_w, i32_w]
    rfl
  refine one_ (i := 1) (N := some 15) #[true, true, true, true, true, false, false] rfl rfl (by kernel_rfl) (by decide) (fun K hK => ?_)
  refine goes_ Try.func80 (by kernel_rfl) rfl #[.slice A1 l1.length c1] (by rfl) rfl rfl (by simp only [List.map_toArray, List.map_cons, List.map_nil]; rfl) ?_
  with_reducible refine (cloneHold.calls A1 c1 l1 l1 _ (Kd.C_below HR.out B0.out) hc1 HCL.out).mono ?_
  rintro e w3 ⟨v0, rfl, hR, hb⟩
  refine ⟨_, rfl, ?_⟩
  refine hK.out _ _ (pw_cell_below hb hHeld) (fun hHeld => ?_)
  clear hK K
  have hR2 := Kd.R_lower hR (show w.heap.size + 2 ≤ _ by simp)
  clear hR
  obtain ⟨g, cap, rfl, -, -, -⟩ := Kd.R_form hR2 (show 0 < l1.length by omega)
  have hS3 : Ap.St w w3 g cap l1 p0 p1 f t 1 e4 := ⟨hR2, below_then B0.out B0.out.size hb, pw_cell_below hb (by simp), pw_cell_below hb (by simp), pw_cell_below hb (by simp), pw_cell_below hb (by simp), pw_cell_below hb (by simp), pw_cell_below hb (by simp)⟩
  clear hR2 hb x4 B0 hHeld
  refine norm_ (a' := ?_) ?_ ?_
  rotate_left
  · show Act.put _ (some 15) _ = _
    simp only [Act.put, List.setIfInBounds_toArray, List.set_cons_zero, List.set_cons_succ, i64_w, i32_w]
    rfl
  refine pure_ (i := 5) (N := some 8) (v := ?_) (a' := ?_) #[true, true, true, true, true, true, false] rfl rfl (by kernel_rfl) (fun _ _ _ h => h) (Or.inl ⟨by rfl, ?_⟩) ?_ ?_
  rotate_left
  · intro w'
    go_simp
    with_reducible rfl
  rotate_left
  · simp only [Act.put, List.setIfInBounds_toArray, List.set_cons_zero, List.set_cons_succ, i64_w, i32_w]
    rfl
  refine pure_ (i := 6) (N := some 9) (v := ?_) (a' := ?_) #[true, true, true, true, true, true, true] rfl rfl (by kernel_rfl) (fun _ _ _ h => h) (Or.inl ⟨by rfl, ?_⟩) ?_ ?_
  rotate_left
  · intro w'
    go_simp
    with_reducible rfl
  rotate_left
  · simp only [Act.put, List.setIfInBounds_toArray, List.set_cons_zero, List.set_cons_succ, i64_w, i32_w]
    rfl
  refine done_ (by kernel_rfl) ?_
  have c0_hS3 := hS3.c0; have c1_hS3 := hS3.c1; have d1_hS3 := hS3.d1; have d2_hS3 := hS3.d2; have d3_hS3 := hS3.d3; have d4_hS3 := hS3.d4
  go_wp2
  go_quiet (fail)
  clear c0_hS3 c1_hS3 d1_hS3 d2_hS3 d3_hS3 d4_hS3
  first
    | refine Ap.reletE (F := fun w' => Ap.St w w' g cap l1 p0 p1 f t 1 e4) (hS3.drewN _) ?_
    | refine Ap.reletI (F := fun w' => Ap.St w w' g cap l1 p0 p1 f t 1 e4) (hS3.drewN _) ?_
    | refine Ap.reletC (F := fun w' => Ap.St w w' g cap l1 p0 p1 f t 1 e4) (hS3.drewN _) ?_
  rintro w4 hS4
  clear hS3
  have c0_hS4 := hS4.c0; have c1_hS4 := hS4.c1; have d1_hS4 := hS4.d1; have d2_hS4 := hS4.d2; have d3_hS4 := hS4.d3; have d4_hS4 := hS4.d4
  obtain ⟨x0, x1, x2, x3, x4, fr_x⟩ := Ap.cells hS4.r (hf)
  rw [← HF.out] at x0 x1 x2 x3 x4
  go_wp2
  go_quiet (fail)
  clear c0_hS4 c1_hS4 d1_hS4 d2_hS4 d3_hS4 d4_hS4
  clear x0 x1 x2 x3 x4 fr_x
  first
    | refine Ap.reletE (F := fun w' => Ap.St w w' g cap l1 p0 p1 f t 1 e4) (hS4.drewN _) ?_
    | refine Ap.reletI (F := fun w' => Ap.St w w' g cap l1 p0 p1 f t 1 e4) (hS4.drewN _) ?_
    | refine Ap.reletC (F := fun w' => Ap.St w w' g cap l1 p0 p1 f t 1 e4) (hS4.drewN _) ?_
  rintro w5 hS5
  clear hS4
  have c0_hS5 := hS5.c0; have c1_hS5 := hS5.c1; have d1_hS5 := hS5.d1; have d2_hS5 := hS5.d2; have d3_hS5 := hS5.d3; have d4_hS5 := hS5.d4
  obtain ⟨x0, x1, x2, x3, x4, fr_x⟩ := Ap.cells hS5.r (hf)
  rw [← HF.out] at x0 x1 x2 x3 x4
  cases hlt : decide (F.f1 < wrap64 e4)
  case true =>
    have h := Hh.out
    rw [HF.out] at hlt
    rw [if_pos (of_decide_eq_true hlt)] at h
    rw [← HF.out] at hlt
    obtain ⟨rfl, rfl⟩ := Prod.mk.inj h
    clear h Hh
    go_wp2
    go_ret2
    exact ⟨_, rfl, Kd.R_nil _ _ _ _ _, hS5.b⟩
  have h := Hh.out
  rw [HF.out] at hlt
  rw [if_neg (of_decide_eq_false hlt)] at h
  rw [← HF.out] at hlt
  clear Hh
  have Hh := Lib.hid h
  clear h
  obtain ⟨y0, y1, y2, y3, y4, -⟩ := Ap.cells hS5.r ht
  rw [← HT.out] at y0 y1 y2 y3 y4
  go_wp2
  go_region
  clear c0_hS5 c1_hS5 d1_hS5 d2_hS5 d3_hS5 d4_hS5
  clear x0 x1 x2 x3 x4 fr_x
  clear y0 y1 y2 y3 y4
  have s1 := hS5.at (Ap.put1 hS5.r hf (wrap64 (F.f1 - wrap64 e4)) HF.out.symm)
  have s2 := s1.at (Ap.put1 (y := T) s1.r (by rw [List.length_set]; exact ht) (wrap64 (T.f1 + wrap64 e4)) (by rw [Ap.other _ hft]; exact HT.out.symm))
  first
    | refine Ap.reletE (F := fun w' => Ap.St w w' g cap ((l1.set f (⟨F.f0, wrap64 (F.f1 - wrap64 e4), F.f2, F.f3, F.f4⟩ : H)).set t (⟨T.f0, wrap64 (T.f1 + wrap64 e4), T.f2, T.f3, T.f4⟩ : H)) p0 p1 f t 1 e4) (s2.drew) ?_
    | refine Ap.reletI (F := fun w' => Ap.St w w' g cap ((l1.set f (⟨F.f0, wrap64 (F.f1 - wrap64 e4), F.f2, F.f3, F.f4⟩ : H)).set t (⟨T.f0, wrap64 (T.f1 + wrap64 e4), T.f2, T.f3, T.f4⟩ : H)) p0 p1 f t 1 e4) (s2.drew) ?_
    | refine Ap.reletC (F := fun w' => Ap.St w w' g cap ((l1.set f (⟨F.f0, wrap64 (F.f1 - wrap64 e4), F.f2, F.f3, F.f4⟩ : H)).set t (⟨T.f0, wrap64 (T.f1 + wrap64 e4), T.f2, T.f3, T.f4⟩ : H)) p0 p1 f t 1 e4) (s2.drew) ?_
  rintro w6 hS6
  clear s1 s2 hS5
  obtain ⟨F1, hF1⟩ : ∃ y, y = (⟨F.f0, wrap64 (F.f1 - wrap64 e4), F.f2, F.f3, F.f4⟩ : H) := ⟨_, rfl⟩
  obtain ⟨T1, hT1⟩ : ∃ y, y = (⟨T.f0, wrap64 (T.f1 + wrap64 e4), T.f2, T.f3, T.f4⟩ : H) := ⟨_, rfl⟩
  rw [← hF1, ← hT1] at hS6
  have hgF : ((l1.set f F1).set t T1).getD f z71 = F1 := by rw [Ap.other _ (Ne.symm hft)]; exact getD_set_self hf _ _
  have hgT : ((l1.set f F1).set t T1).getD t z71 = T1 := getD_set_self (by rw [List.length_set]; exact ht) _ _
  have HF1 := Lib.hid hF1; have HT1 := Lib.hid hT1; clear hF1 hT1; have HgF := Lib.hid hgF; have HgT := Lib.hid hgT; clear hgF hgT
  have c0_hS6 := hS6.c0; have c1_hS6 := hS6.c1; have d1_hS6 := hS6.d1; have d2_hS6 := hS6.d2; have d3_hS6 := hS6.d3; have d4_hS6 := hS6.d4
  obtain ⟨x0, x1, x2, x3, x4, fr_x⟩ := Ap.cells hS6.r (by simp only [List.length_set]; exact hf)
  rw [HgF.out] at x0 x1 x2 x3 x4
  obtain ⟨y0, y1, y2, y3, y4, fr_y⟩ := Ap.cells hS6.r (by simp only [List.length_set]; exact ht)
  rw [HgT.out] at y0 y1 y2 y3 y4
  go_wp2
  go_region
  clear c0_hS6 c1_hS6 d1_hS6 d2_hS6 d3_hS6 d4_hS6
  clear x0 x1 x2 x3 x4 fr_x
  clear y0 y1 y2 y3 y4 fr_y
  have s1 := hS6.at (Ap.put4 hS6.r (by simp only [List.length_set]; exact hf) (wrap64 (F1.f4 + wrap64 (wrap64 e4 * wrap64 p0))) HgF.out)
  have s2 := s1.at (Ap.put4 (y := T1) s1.r (by simp only [List.length_set]; exact ht) (wrap64 (T1.f4 - wrap64 (wrap64 e4 * wrap64 p0))) (by rw [Ap.other _ hft]; exact HgT.out))
  first
    | refine Ap.reletE (F := fun w' => Ap.St w w' g cap ((((l1.set f F1).set t T1).set f (⟨F1.f0, F1.f1, F1.f2, F1.f3, wrap64 (F1.f4 + wrap64 (wrap64 e4 * wrap64 p0))⟩ : H)).set t (⟨T1.f0, T1.f1, T1.f2, T1.f3, wrap64 (T1.f4 - wrap64 (wrap64 e4 * wrap64 p0))⟩ : H)) p0 p1 f t 1 e4) (s2.drew) ?_
    | refine Ap.reletI (F := fun w' => Ap.St w w' g cap ((((l1.set f F1).set t T1).set f (⟨F1.f0, F1.f1, F1.f2, F1.f3, wrap64 (F1.f4 + wrap64 (wrap64 e4 * wrap64 p0))⟩ : H)).set t (⟨T1.f0, T1.f1, T1.f2, T1.f3, wrap64 (T1.f4 - wrap64 (wrap64 e4 * wrap64 p0))⟩ : H)) p0 p1 f t 1 e4) (s2.drew) ?_
    | refine Ap.reletC (F := fun w' => Ap.St w w' g cap ((((l1.set f F1).set t T1).set f (⟨F1.f0, F1.f1, F1.f2, F1.f3, wrap64 (F1.f4 + wrap64 (wrap64 e4 * wrap64 p0))⟩ : H)).set t (⟨T1.f0, T1.f1, T1.f2, T1.f3, wrap64 (T1.f4 - wrap64 (wrap64 e4 * wrap64 p0))⟩ : H)) p0 p1 f t 1 e4) (s2.drew) ?_
  rintro w7 hS7
  clear s1 s2 hS6
  have he : ((((l1.set f F1).set t T1).set f (⟨F1.f0, F1.f1, F1.f2, F1.f3, wrap64 (F1.f4 + wrap64 (wrap64 e4 * wrap64 p0))⟩ : H)).set t (⟨T1.f0, T1.f1, T1.f2, T1.f3, wrap64 (T1.f4 - wrap64 (wrap64 e4 * wrap64 p0))⟩ : H)) = (l1.set f (⟨F1.f0, F1.f1, F1.f2, F1.f3, wrap64 (F1.f4 + wrap64 (wrap64 e4 * wrap64 p0))⟩ : H)).set t (⟨T1.f0, T1.f1, T1.f2, T1.f3, wrap64 (T1.f4 - wrap64 (wrap64 e4 * wrap64 p0))⟩ : H) := Ap.both hft _ _ _ _
  rw [he] at hS7
  clear he
  obtain ⟨F2, hF2⟩ : ∃ y, y = (⟨F1.f0, F1.f1, F1.f2, F1.f3, wrap64 (F1.f4 + wrap64 (wrap64 e4 * wrap64 p0))⟩ : H) := ⟨_, rfl⟩
  obtain ⟨T2, hT2⟩ : ∃ y, y = (⟨T1.f0, T1.f1, T1.f2, T1.f3, wrap64 (T1.f4 - wrap64 (wrap64 e4 * wrap64 p0))⟩ : H) := ⟨_, rfl⟩
  rw [← hF2, ← hT2] at hS7
  rw [HF1.out] at hF2; rw [HT1.out] at hT2; clear HF1 HT1 HgF HgT
  have hgF : ((l1.set f F2).set t T2).getD f z71 = F2 := by rw [Ap.other _ (Ne.symm hft)]; exact getD_set_self hf _ _
  have hgT : ((l1.set f F2).set t T2).getD t z71 = T2 := getD_set_self (by rw [List.length_set]; exact ht) _ _
  have HF1 := Lib.hid hF2; have HT1 := Lib.hid hT2; clear hF2 hT2; have HgF := Lib.hid hgF; have HgT := Lib.hid hgT; clear hgF hgT
  have c0_hS7 := hS7.c0; have c1_hS7 := hS7.c1; have d1_hS7 := hS7.d1; have d2_hS7 := hS7.d2; have d3_hS7 := hS7.d3; have d4_hS7 := hS7.d4
  obtain ⟨x0, x1, x2, x3, x4, fr_x⟩ := Ap.cells hS7.r (by simp only [List.length_set]; exact hf)
  rw [HgF.out] at x0 x1 x2 x3 x4
  obtain ⟨y0, y1, y2, y3, y4, fr_y⟩ := Ap.cells hS7.r (by simp only [List.length_set]; exact ht)
  rw [HgT.out] at y0 y1 y2 y3 y4
  have hres : (if (hB F2 && hB T2) = true then (((l1.set f F2).set t T2), (0 : Int)) else ([], 3)) = (r1, r2) := by rw [HF1.out, HT1.out, HF.out, HT.out]; exact Hh.out
  clear Hh HF1 HgF HF HT1 HgT HT
  cases bF2 : hB F2
  · simp only [bF2, Bool.false_and, if_neg Bool.false_ne_true] at hres
    obtain ⟨rfl, rfl⟩ := Prod.mk.inj hres
    clear hres
    have BF2 := Lib.hid (show heldB F2.f0 F2.f1 F2.f2 F2.f3 F2.f4 = false from bF2)
    clear bF2
    go_wp2_with (fail "a call")
    refine (impl_isHeld.calls F2.f0 F2.f1 F2.f2 F2.f3 F2.f4 false _ ((isHeld_tells ..).trans (congrArg some BF2.out))).mono ?_
    rintro e wa ⟨rfl, ha⟩
    go_wp2
    go_ret2
    exact ⟨_, rfl, Kd.R_nil _ _ _ _ _, below_then hS7.b hS7.b.size ha⟩
  · cases bT2 : hB T2
    · simp only [bF2, bT2, Bool.and_false, if_neg Bool.false_ne_true] at hres
      obtain ⟨rfl, rfl⟩ := Prod.mk.inj hres
      clear hres
      have BF2 := Lib.hid (show heldB F2.f0 F2.f1 F2.f2 F2.f3 F2.f4 = true from bF2)
      clear bF2
      have BT2 := Lib.hid (show heldB T2.f0 T2.f1 T2.f2 T2.f3 T2.f4 = false from bT2)
      clear bT2
      go_wp2_with (fail "a call")
      refine (impl_isHeld.calls F2.f0 F2.f1 F2.f2 F2.f3 F2.f4 true _ ((isHeld_tells ..).trans (congrArg some BF2.out))).mono ?_
      rintro e wa ⟨rfl, ha⟩
      replace y0 := pw_cell_below ha y0
      replace y1 := pw_cell_below ha y1
      replace y2 := pw_cell_below ha y2
      replace y3 := pw_cell_below ha y3
      replace y4 := pw_cell_below ha y4
      go_wp2_with (fail "a call")
      refine (impl_isHeld.calls T2.f0 T2.f1 T2.f2 T2.f3 T2.f4 false _ ((isHeld_tells ..).trans (congrArg some BT2.out))).mono ?_
      rintro e wb ⟨rfl, hb⟩
      go_wp2
      go_ret2
      exact ⟨_, rfl, Kd.R_nil _ _ _ _ _, below_then (below_then hS7.b hS7.b.size ha) (below_then hS7.b hS7.b.size ha).size hb⟩
    · simp only [bF2, bT2, Bool.and_true, if_true] at hres
      obtain ⟨rfl, rfl⟩ := Prod.mk.inj hres
      clear hres
      have BF2 := Lib.hid (show heldB F2.f0 F2.f1 F2.f2 F2.f3 F2.f4 = true from bF2)
      clear bF2
      have BT2 := Lib.hid (show heldB T2.f0 T2.f1 T2.f2 T2.f3 T2.f4 = true from bT2)
      clear bT2
      go_wp2_with (fail "a call")
      refine (impl_isHeld.calls F2.f0 F2.f1 F2.f2 F2.f3 F2.f4 true _ ((isHeld_tells ..).trans (congrArg some BF2.out))).mono ?_
      rintro e wa ⟨rfl, ha⟩
      replace y0 := pw_cell_below ha y0
      replace y1 := pw_cell_below ha y1
      replace y2 := pw_cell_below ha y2
      replace y3 := pw_cell_below ha y3
      replace y4 := pw_cell_below ha y4
      go_wp2_with (fail "a call")
      refine (impl_isHeld.calls T2.f0 T2.f1 T2.f2 T2.f3 T2.f4 true _ ((isHeld_tells ..).trans (congrArg some BT2.out))).mono ?_
      rintro e wb ⟨rfl, hb⟩
      have hr_ := Kd.R_lower (Kd.R_below (Kd.R_below hS7.r ha) hb) (show w.heap.size ≤ w.heap.size + 2 by omega)
      simp only [List.length_set] at hr_
      go_wp2
      go_ret2
      exact ⟨_, rfl, hr_, below_then (below_then hS7.b hS7.b.size ha) (below_then hS7.b hS7.b.size ha).size hb⟩
set_option maxHeartbeats 8000000 in
set_option maxRecDepth 100000 in
theorem w2 (A1 : Option Addr) (c1 : Nat) (l1 : List H) (p0 p1 e0 e4 : Int) (f t : Nat) (r1 : List H) (r2 : Int) (w : World) (hr : Kd.C k71 w A1 l1.length l1) (hc1 : l1.length ≤ c1) (hl : l1.length ≤ 6) (hf : f < l1.length) (ht : t < l1.length) (hft : f ≠ t)
    (h : (if (l1.getD f z71).f2 < wrap64 e4 then ([], 4) else Ap.moveA 2 l1 f t (wrap64 e4) (wrap64 p1)) = (r1, r2)) :
    Calls Try.prog 46 #[.agg #[.int .i16 p0, .int .i16 p1], .slice A1 l1.length c1, .agg #[.int .i16 e0, .int .i8 f, .int .i8 t, .int .u8 2, .int .i16 e4]] w fun e w' => ∃ v : Value, e = .returned (.tuple #[v, .int .i64 r2]) ∧ Kd.R k71 71 w' w.heap.size (fun _ => True) v r1 ∧ Below w.heap.size w w' := by
  have HCL := Lib.hid (show cloneHold.f l1 = some l1 by unfold cloneHold.f; rw [if_pos (by omega)])
  have HR := Aside0.mk hr
  clear hr
  have Hh := Lib.hid h
  clear h
  obtain ⟨F, hF⟩ : ∃ F, F = l1.getD f z71 := ⟨_, rfl⟩
  have HF := Lib.hid hF
  clear hF
  obtain ⟨T, hT⟩ : ∃ T, T = l1.getD t z71 := ⟨_, rfl⟩
  have HT := Lib.hid hT
  clear hT
  have hf1 : decide ((f : Int) < (l1.length : Int)) = true := decide_eq_true (by omega)
  have hfz : decide (f < l1.length) = true := decide_eq_true hf
  have hfz2 := hf
  have ht1 : decide ((t : Int) < (l1.length : Int)) = true := decide_eq_true (by omega)
  have htz : decide (t < l1.length) = true := decide_eq_true ht
  go_enter Try.func46, Try.ntmps46
  go_wp2
  have B0 : Aside0 (Below w.heap.size w ((w.alloc (.cells #[.int .i16 p0, .int .i16 p1] 33)).alloc (.cells #[.int .i16 e0, .int .i8 (f : Int), .int .i8 (t : Int), .int .u8 2, .int .i16 e4] 36)).drew) := ⟨below_drew1 (((Below.refl _ _).alloc (Nat.le_refl _) _).alloc (by simp) _)⟩
  have x4 : ((w.alloc (.cells #[.int .i16 p0, .int .i16 p1] 33)).alloc (.cells #[.int .i16 e0, .int .i8 (f : Int), .int .i8 (t : Int), .int .u8 2, .int .i16 e4] 36)).drew.cell? ⟨w.heap.size + 1, 4, none⟩ = some (.int .i16 e4) := by simp
  refine start_ (n := 7) (S := fun w' => w'.cell? ⟨w.heap.size + 1, 4, none⟩ = some (.int .i16 e4)) (ds := []) #[false, false, false, false, false, false, false] (by kernel_rfl) rfl rfl (x4) (fun hHeld => ?_)
  refine pure_ (i := 0) (N := some 14) (v := ?_) (a' := ?_) #[true, false, false, false, false, false, false] rfl rfl (by kernel_rfl) (fun _ _ _ h => h) (Or.inl ⟨by rfl, ?_⟩) ?_ ?_
  rotate_left
  · intro w'
    go_simp
    with_reducible rfl
  rotate_left
  · simp only [Act.put, List.setIfInBounds_toArray, List.set_cons_zero, List.set_cons_succ, i64_w, i32_w]
    rfl
  refine pure_ (i := 2) (N := some 16) (v := ?_) (a' := ?_) #[true, false, true, false, false, false, false] rfl rfl (by kernel_rfl) (fun _ _ _ h => h) (Or.inl ⟨by rfl, ?_⟩) ?_ ?_
  rotate_left
  · intro w'
    go_simp
    with_reducible rfl
  rotate_left
  · simp only [Act.put, List.setIfInBounds_toArray, List.set_cons_zero, List.set_cons_succ, i64_w, i32_w]
    rfl
  refine take_ (i := 3) (N := some 17) (v := ?_) (a' := ?_) #[true, false, true, true, false, false, false] rfl rfl (by kernel_rfl) (fun _ _ _ h => h) (Or.inl ⟨by rfl, ?_⟩) hHeld ?_ ?_
  rotate_left
  · intro w' s0
    go_simp
    with_reducible rfl
  rotate_left
  · simp only [Act.put, List.setIfInBounds_toArray, List.set_cons_zero, List.set_cons_succ, i64_w, i32_w]
    rfl
  refine pure_ (i := 4) (N := some 18) (v := ?_) (a' := ?_) #[true, false, true, true, true, false, false] rfl rfl (by kernel_rfl) (fun _ _ _ h => h) (Or.inl ⟨by rfl, ?_⟩) ?_ ?_
  rotate_left
  · intro w'
    go_simp
    with_reducible rfl
  rotate_left
  · simp only [Act.put, List.setIfInBounds_toArray, List.set_cons_zero, List.set_cons_succ, i64_w, i32_w]
    rfl
  refine one_ (i := 1) (N := some 15) #[true, true, true, true, true, false, false] rfl rfl (by kernel_rfl) (by decide) (fun K hK => ?_)
  refine goes_ Try.func80 (by kernel_rfl) rfl #[.slice A1 l1.length c1] (by rfl) rfl rfl (by simp only [List.map_toArray, List.map_cons, List.map_nil]; rfl) ?_
  with_reducible refine (cloneHold.calls A1 c1 l1 l1 _ (Kd.C_below HR.out B0.out) hc1 HCL.out).mono ?_
  rintro e w3 ⟨v0, rfl, hR, hb⟩
  refine ⟨_, rfl, ?_⟩
  refine hK.out _ _ (pw_cell_below hb hHeld) (fun hHeld => ?_)
  clear hK K
  have hR2 := Kd.R_lower hR (show w.heap.size + 2 ≤ _ by simp)
  clear hR
  obtain ⟨g, cap, rfl, -, -, -⟩ := Kd.R_form hR2 (show 0 < l1.length by omega)
  have hS3 : Ap.St w w3 g cap l1 p0 p1 f t 2 e4 := ⟨hR2, below_then B0.out B0.out.size hb, pw_cell_below hb (by simp), pw_cell_below hb (by simp), pw_cell_below hb (by simp), pw_cell_below hb (by simp), pw_cell_below hb (by simp), pw_cell_below hb (by simp)⟩
  clear hR2 hb x4 B0 hHeld
  refine norm_ (a' := ?_) ?_ ?_
  rotate_left
  · show Act.put _ (some 15) _ = _
    simp only [Act.put, List.setIfInBounds_toArray, List.set_cons_zero, List.set_cons_succ, i64_w, i32_w]
    rfl
  refine pure_ (i := 5) (N := some 8) (v := ?_) (a' := ?_) #[true, true, true, true, true, true, false] rfl rfl (by kernel_rfl) (fun _ _ _ h => h) (Or.inl ⟨by rfl, ?_⟩) ?_ ?_
  rotate_left
  · intro w'
    go_simp
    with_reducible rfl
  rotate_left
  · simp only [Act.put, List.setIfInBounds_toArray, List.set_cons_zero, List.set_cons_succ, i64_w, i32_w]
    rfl
  refine pure_ (i := 6) (N := some 9) (v := ?_) (a' := ?_) #[true, true, true, true, true, true, true] rfl rfl (by kernel_rfl) (fun _ _ _ h => h) (Or.inl ⟨by rfl, ?_⟩) ?_ ?_
  rotate_left
  · intro w'
    go_simp
    with_reducible rfl
  rotate_left
  · simp only [Act.put, List.setIfInBounds_toArray, List.set_cons_zero, List.set_cons_succ, i64_w, i32_w]
    rfl
  refine done_ (by kernel_rfl) ?_
  have c0_hS3 := hS3.c0; have c1_hS3 := hS3.c1; have d1_hS3 := hS3.d1; have d2_hS3 := hS3.d2; have d3_hS3 := hS3.d3; have d4_hS3 := hS3.d4
  go_wp2
  go_quiet (fail)
  clear c0_hS3 c1_hS3 d1_hS3 d2_hS3 d3_hS3 d4_hS3
  first
    | refine Ap.reletE (F := fun w' => Ap.St w w' g cap l1 p0 p1 f t 2 e4) (hS3.drewN _) ?_
    | refine Ap.reletI (F := fun w' => Ap.St w w' g cap l1 p0 p1 f t 2 e4) (hS3.drewN _) ?_
    | refine Ap.reletC (F := fun w' => Ap.St w w' g cap l1 p0 p1 f t 2 e4) (hS3.drewN _) ?_
  rintro w4 hS4
  clear hS3
  have c0_hS4 := hS4.c0; have c1_hS4 := hS4.c1; have d1_hS4 := hS4.d1; have d2_hS4 := hS4.d2; have d3_hS4 := hS4.d3; have d4_hS4 := hS4.d4
  obtain ⟨x0, x1, x2, x3, x4, fr_x⟩ := Ap.cells hS4.r (hf)
  rw [← HF.out] at x0 x1 x2 x3 x4
  go_wp2
  go_quiet (fail)
  clear c0_hS4 c1_hS4 d1_hS4 d2_hS4 d3_hS4 d4_hS4
  clear x0 x1 x2 x3 x4 fr_x
  first
    | refine Ap.reletE (F := fun w' => Ap.St w w' g cap l1 p0 p1 f t 2 e4) (hS4.drewN _) ?_
    | refine Ap.reletI (F := fun w' => Ap.St w w' g cap l1 p0 p1 f t 2 e4) (hS4.drewN _) ?_
    | refine Ap.reletC (F := fun w' => Ap.St w w' g cap l1 p0 p1 f t 2 e4) (hS4.drewN _) ?_
  rintro w5 hS5
  clear hS4
  have c0_hS5 := hS5.c0; have c1_hS5 := hS5.c1; have d1_hS5 := hS5.d1; have d2_hS5 := hS5.d2; have d3_hS5 := hS5.d3; have d4_hS5 := hS5.d4
  obtain ⟨x0, x1, x2, x3, x4, fr_x⟩ := Ap.cells hS5.r (hf)
  rw [← HF.out] at x0 x1 x2 x3 x4
  go_wp2
  go_quiet (fail)
  clear c0_hS5 c1_hS5 d1_hS5 d2_hS5 d3_hS5 d4_hS5
  clear x0 x1 x2 x3 x4 fr_x
  first
    | refine Ap.reletE (F := fun w' => Ap.St w w' g cap l1 p0 p1 f t 2 e4) (hS5.drewN _) ?_
    | refine Ap.reletI (F := fun w' => Ap.St w w' g cap l1 p0 p1 f t 2 e4) (hS5.drewN _) ?_
    | refine Ap.reletC (F := fun w' => Ap.St w w' g cap l1 p0 p1 f t 2 e4) (hS5.drewN _) ?_
  rintro w6 hS6
  clear hS5
  have c0_hS6 := hS6.c0; have c1_hS6 := hS6.c1; have d1_hS6 := hS6.d1; have d2_hS6 := hS6.d2; have d3_hS6 := hS6.d3; have d4_hS6 := hS6.d4
  obtain ⟨x0, x1, x2, x3, x4, fr_x⟩ := Ap.cells hS6.r (hf)
  rw [← HF.out] at x0 x1 x2 x3 x4
  cases hlt : decide (F.f2 < wrap64 e4)
  case true =>
    have h := Hh.out
    rw [HF.out] at hlt
    rw [if_pos (of_decide_eq_true hlt)] at h
    rw [← HF.out] at hlt
    obtain ⟨rfl, rfl⟩ := Prod.mk.inj h
    clear h Hh
    go_wp2
    go_ret2
    exact ⟨_, rfl, Kd.R_nil _ _ _ _ _, hS6.b⟩
  have h := Hh.out
  rw [HF.out] at hlt
  rw [if_neg (of_decide_eq_false hlt)] at h
  rw [← HF.out] at hlt
  clear Hh
  have Hh := Lib.hid h
  clear h
  obtain ⟨y0, y1, y2, y3, y4, -⟩ := Ap.cells hS6.r ht
  rw [← HT.out] at y0 y1 y2 y3 y4
  go_wp2
  go_region
  clear c0_hS6 c1_hS6 d1_hS6 d2_hS6 d3_hS6 d4_hS6
  clear x0 x1 x2 x3 x4 fr_x
  clear y0 y1 y2 y3 y4
  have s1 := hS6.at (Ap.put2 hS6.r hf (wrap64 (F.f2 - wrap64 e4)) HF.out.symm)
  have s2 := s1.at (Ap.put2 (y := T) s1.r (by rw [List.length_set]; exact ht) (wrap64 (T.f2 + wrap64 e4)) (by rw [Ap.other _ hft]; exact HT.out.symm))
  first
    | refine Ap.reletE (F := fun w' => Ap.St w w' g cap ((l1.set f (⟨F.f0, F.f1, wrap64 (F.f2 - wrap64 e4), F.f3, F.f4⟩ : H)).set t (⟨T.f0, T.f1, wrap64 (T.f2 + wrap64 e4), T.f3, T.f4⟩ : H)) p0 p1 f t 2 e4) (s2.drew) ?_
    | refine Ap.reletI (F := fun w' => Ap.St w w' g cap ((l1.set f (⟨F.f0, F.f1, wrap64 (F.f2 - wrap64 e4), F.f3, F.f4⟩ : H)).set t (⟨T.f0, T.f1, wrap64 (T.f2 + wrap64 e4), T.f3, T.f4⟩ : H)) p0 p1 f t 2 e4) (s2.drew) ?_
    | refine Ap.reletC (F := fun w' => Ap.St w w' g cap ((l1.set f (⟨F.f0, F.f1, wrap64 (F.f2 - wrap64 e4), F.f3, F.f4⟩ : H)).set t (⟨T.f0, T.f1, wrap64 (T.f2 + wrap64 e4), T.f3, T.f4⟩ : H)) p0 p1 f t 2 e4) (s2.drew) ?_
  rintro w7 hS7
  clear s1 s2 hS6
  obtain ⟨F1, hF1⟩ : ∃ y, y = (⟨F.f0, F.f1, wrap64 (F.f2 - wrap64 e4), F.f3, F.f4⟩ : H) := ⟨_, rfl⟩
  obtain ⟨T1, hT1⟩ : ∃ y, y = (⟨T.f0, T.f1, wrap64 (T.f2 + wrap64 e4), T.f3, T.f4⟩ : H) := ⟨_, rfl⟩
  rw [← hF1, ← hT1] at hS7
  have hgF : ((l1.set f F1).set t T1).getD f z71 = F1 := by rw [Ap.other _ (Ne.symm hft)]; exact getD_set_self hf _ _
  have hgT : ((l1.set f F1).set t T1).getD t z71 = T1 := getD_set_self (by rw [List.length_set]; exact ht) _ _
  have HF1 := Lib.hid hF1; have HT1 := Lib.hid hT1; clear hF1 hT1; have HgF := Lib.hid hgF; have HgT := Lib.hid hgT; clear hgF hgT
  have c0_hS7 := hS7.c0; have c1_hS7 := hS7.c1; have d1_hS7 := hS7.d1; have d2_hS7 := hS7.d2; have d3_hS7 := hS7.d3; have d4_hS7 := hS7.d4
  obtain ⟨x0, x1, x2, x3, x4, fr_x⟩ := Ap.cells hS7.r (by simp only [List.length_set]; exact hf)
  rw [HgF.out] at x0 x1 x2 x3 x4
  obtain ⟨y0, y1, y2, y3, y4, fr_y⟩ := Ap.cells hS7.r (by simp only [List.length_set]; exact ht)
  rw [HgT.out] at y0 y1 y2 y3 y4
  go_wp2
  go_region
  clear c0_hS7 c1_hS7 d1_hS7 d2_hS7 d3_hS7 d4_hS7
  clear x0 x1 x2 x3 x4 fr_x
  clear y0 y1 y2 y3 y4 fr_y
  have s1 := hS7.at (Ap.put4 hS7.r (by simp only [List.length_set]; exact hf) (wrap64 (F1.f4 + wrap64 (wrap64 e4 * wrap64 p1))) HgF.out)
  have s2 := s1.at (Ap.put4 (y := T1) s1.r (by simp only [List.length_set]; exact ht) (wrap64 (T1.f4 - wrap64 (wrap64 e4 * wrap64 p1))) (by rw [Ap.other _ hft]; exact HgT.out))
  first
    | refine Ap.reletE (F := fun w' => Ap.St w w' g cap ((((l1.set f F1).set t T1).set f (⟨F1.f0, F1.f1, F1.f2, F1.f3, wrap64 (F1.f4 + wrap64 (wrap64 e4 * wrap64 p1))⟩ : H)).set t (⟨T1.f0, T1.f1, T1.f2, T1.f3, wrap64 (T1.f4 - wrap64 (wrap64 e4 * wrap64 p1))⟩ : H)) p0 p1 f t 2 e4) (s2.drew) ?_
    | refine Ap.reletI (F := fun w' => Ap.St w w' g cap ((((l1.set f F1).set t T1).set f (⟨F1.f0, F1.f1, F1.f2, F1.f3, wrap64 (F1.f4 + wrap64 (wrap64 e4 * wrap64 p1))⟩ : H)).set t (⟨T1.f0, T1.f1, T1.f2, T1.f3, wrap64 (T1.f4 - wrap64 (wrap64 e4 * wrap64 p1))⟩ : H)) p0 p1 f t 2 e4) (s2.drew) ?_
    | refine Ap.reletC (F := fun w' => Ap.St w w' g cap ((((l1.set f F1).set t T1).set f (⟨F1.f0, F1.f1, F1.f2, F1.f3, wrap64 (F1.f4 + wrap64 (wrap64 e4 * wrap64 p1))⟩ : H)).set t (⟨T1.f0, T1.f1, T1.f2, T1.f3, wrap64 (T1.f4 - wrap64 (wrap64 e4 * wrap64 p1))⟩ : H)) p0 p1 f t 2 e4) (s2.drew) ?_
  rintro w8 hS8
  clear s1 s2 hS7
  have he : ((((l1.set f F1).set t T1).set f (⟨F1.f0, F1.f1, F1.f2, F1.f3, wrap64 (F1.f4 + wrap64 (wrap64 e4 * wrap64 p1))⟩ : H)).set t (⟨T1.f0, T1.f1, T1.f2, T1.f3, wrap64 (T1.f4 - wrap64 (wrap64 e4 * wrap64 p1))⟩ : H)) = (l1.set f (⟨F1.f0, F1.f1, F1.f2, F1.f3, wrap64 (F1.f4 + wrap64 (wrap64 e4 * wrap64 p1))⟩ : H)).set t (⟨T1.f0, T1.f1, T1.f2, T1.f3, wrap64 (T1.f4 - wrap64 (wrap64 e4 * wrap64 p1))⟩ : H) := Ap.both hft _ _ _ _
  rw [he] at hS8
  clear he
  obtain ⟨F2, hF2⟩ : ∃ y, y = (⟨F1.f0, F1.f1, F1.f2, F1.f3, wrap64 (F1.f4 + wrap64 (wrap64 e4 * wrap64 p1))⟩ : H) := ⟨_, rfl⟩
  obtain ⟨T2, hT2⟩ : ∃ y, y = (⟨T1.f0, T1.f1, T1.f2, T1.f3, wrap64 (T1.f4 - wrap64 (wrap64 e4 * wrap64 p1))⟩ : H) := ⟨_, rfl⟩
  rw [← hF2, ← hT2] at hS8
  rw [HF1.out] at hF2; rw [HT1.out] at hT2; clear HF1 HT1 HgF HgT
  have hgF : ((l1.set f F2).set t T2).getD f z71 = F2 := by rw [Ap.other _ (Ne.symm hft)]; exact getD_set_self hf _ _
  have hgT : ((l1.set f F2).set t T2).getD t z71 = T2 := getD_set_self (by rw [List.length_set]; exact ht) _ _
  have HF1 := Lib.hid hF2; have HT1 := Lib.hid hT2; clear hF2 hT2; have HgF := Lib.hid hgF; have HgT := Lib.hid hgT; clear hgF hgT
  have c0_hS8 := hS8.c0; have c1_hS8 := hS8.c1; have d1_hS8 := hS8.d1; have d2_hS8 := hS8.d2; have d3_hS8 := hS8.d3; have d4_hS8 := hS8.d4
  obtain ⟨x0, x1, x2, x3, x4, fr_x⟩ := Ap.cells hS8.r (by simp only [List.length_set]; exact hf)
  rw [HgF.out] at x0 x1 x2 x3 x4
  obtain ⟨y0, y1, y2, y3, y4, fr_y⟩ := Ap.cells hS8.r (by simp only [List.length_set]; exact ht)
  rw [HgT.out] at y0 y1 y2 y3 y4
  have hres : (if (hB F2 && hB T2) = true then (((l1.set f F2).set t T2), (0 : Int)) else ([], 3)) = (r1, r2) := by rw [HF1.out, HT1.out, HF.out, HT.out]; exact Hh.out
  clear Hh HF1 HgF HF HT1 HgT HT
  cases bF2 : hB F2
  · simp only [bF2, Bool.false_and, if_neg Bool.false_ne_true] at hres
    obtain ⟨rfl, rfl⟩ := Prod.mk.inj hres
    clear hres
    have BF2 := Lib.hid (show heldB F2.f0 F2.f1 F2.f2 F2.f3 F2.f4 = false from bF2)
    clear bF2
    go_wp2_with (fail "a call")
    refine (impl_isHeld.calls F2.f0 F2.f1 F2.f2 F2.f3 F2.f4 false _ ((isHeld_tells ..).trans (congrArg some BF2.out))).mono ?_
    rintro e wa ⟨rfl, ha⟩
    go_wp2
    go_ret2
    exact ⟨_, rfl, Kd.R_nil _ _ _ _ _, below_then hS8.b hS8.b.size ha⟩
  · cases bT2 : hB T2
    · simp only [bF2, bT2, Bool.and_false, if_neg Bool.false_ne_true] at hres
      obtain ⟨rfl, rfl⟩ := Prod.mk.inj hres
      clear hres
      have BF2 := Lib.hid (show heldB F2.f0 F2.f1 F2.f2 F2.f3 F2.f4 = true from bF2)
      clear bF2
      have BT2 := Lib.hid (show heldB T2.f0 T2.f1 T2.f2 T2.f3 T2.f4 = false from bT2)
      clear bT2
      go_wp2_with (fail "a call")
      refine (impl_isHeld.calls F2.f0 F2.f1 F2.f2 F2.f3 F2.f4 true _ ((isHeld_tells ..).trans (congrArg some BF2.out))).mono ?_
      rintro e wa ⟨rfl, ha⟩
      replace y0 := pw_cell_below ha y0
      replace y1 := pw_cell_below ha y1
      replace y2 := pw_cell_below ha y2
      replace y3 := pw_cell_below ha y3
      replace y4 := pw_cell_below ha y4
      go_wp2_with (fail "a call")
      refine (impl_isHeld.calls T2.f0 T2.f1 T2.f2 T2.f3 T2.f4 false _ ((isHeld_tells ..).trans (congrArg some BT2.out))).mono ?_
      rintro e wb ⟨rfl, hb⟩
      go_wp2
      go_ret2
      exact ⟨_, rfl, Kd.R_nil _ _ _ _ _, below_then (below_then hS8.b hS8.b.size ha) (below_then hS8.b hS8.b.size ha).size hb⟩
    · simp only [bF2, bT2, Bool.and_true, if_true] at hres
      obtain ⟨rfl, rfl⟩ := Prod.mk.inj hres
      clear hres
      have BF2 := Lib.hid (show heldB F2.f0 F2.f1 F2.f2 F2.f3 F2.f4 = true from bF2)
      clear bF2
      have BT2 := Lib.hid (show heldB T2.f0 T2.f1 T2.f2 T2.f3 T2.f4 = true from bT2)
      clear bT2
      go_wp2_with (fail "a call")
      refine (impl_isHeld.calls F2.f0 F2.f1 F2.f2 F2.f3 F2.f4 true _ ((isHeld_tells ..).trans (congrArg some BF2.out))).mono ?_
      rintro e wa ⟨rfl, ha⟩
      replace y0 := pw_cell_below ha y0
      replace y1 := pw_cell_below ha y1
      replace y2 := pw_cell_below ha y2
      replace y3 := pw_cell_below ha y3
      replace y4 := pw_cell_below ha y4
      go_wp2_with (fail "a call")
      refine (impl_isHeld.calls T2.f0 T2.f1 T2.f2 T2.f3 T2.f4 true _ ((isHeld_tells ..).trans (congrArg some BT2.out))).mono ?_
      rintro e wb ⟨rfl, hb⟩
      have hr_ := Kd.R_lower (Kd.R_below (Kd.R_below hS8.r ha) hb) (show w.heap.size ≤ w.heap.size + 2 by omega)
      simp only [List.length_set] at hr_
      go_wp2
      go_ret2
      exact ⟨_, rfl, hr_, below_then (below_then hS8.b hS8.b.size ha) (below_then hS8.b hS8.b.size ha).size hb⟩
set_option maxHeartbeats 8000000 in
set_option maxRecDepth 100000 in
theorem w3 (A1 : Option Addr) (c1 : Nat) (l1 : List H) (p0 p1 e0 e4 : Int) (f : Nat) (r1 : List H) (r2 : Int) (w : World) (hr : Kd.C k71 w A1 l1.length l1) (hc1 : l1.length ≤ c1) (hl : l1.length ≤ 6) (hf : f < l1.length)
    (h : (if (l1.getD f z71).f0 < wrap64 e4 then ([], 4) else Ap.moveB 1 l1 f (wrap64 e4)) = (r1, r2)) :
    Calls Try.prog 46 #[.agg #[.int .i16 p0, .int .i16 p1], .slice A1 l1.length c1, .agg #[.int .i16 e0, .int .i8 f, .int .i8 f, .int .u8 3, .int .i16 e4]] w fun e w' => ∃ v : Value, e = .returned (.tuple #[v, .int .i64 r2]) ∧ Kd.R k71 71 w' w.heap.size (fun _ => True) v r1 ∧ Below w.heap.size w w' := by
  have HCL := Lib.hid (show cloneHold.f l1 = some l1 by unfold cloneHold.f; rw [if_pos (by omega)])
  have HR := Aside0.mk hr
  clear hr
  have Hh := Lib.hid h
  clear h
  obtain ⟨F, hF⟩ : ∃ F, F = l1.getD f z71 := ⟨_, rfl⟩
  have HF := Lib.hid hF
  clear hF
  have hf1 : decide ((f : Int) < (l1.length : Int)) = true := decide_eq_true (by omega)
  have hfz : decide (f < l1.length) = true := decide_eq_true hf
  have hfz2 := hf
  go_enter Try.func46, Try.ntmps46
  go_wp2
  have B0 : Aside0 (Below w.heap.size w ((w.alloc (.cells #[.int .i16 p0, .int .i16 p1] 33)).alloc (.cells #[.int .i16 e0, .int .i8 (f : Int), .int .i8 (f : Int), .int .u8 3, .int .i16 e4] 36)).drew) := ⟨below_drew1 (((Below.refl _ _).alloc (Nat.le_refl _) _).alloc (by simp) _)⟩
  have x4 : ((w.alloc (.cells #[.int .i16 p0, .int .i16 p1] 33)).alloc (.cells #[.int .i16 e0, .int .i8 (f : Int), .int .i8 (f : Int), .int .u8 3, .int .i16 e4] 36)).drew.cell? ⟨w.heap.size + 1, 4, none⟩ = some (.int .i16 e4) := by simp
  refine start_ (n := 7) (S := fun w' => w'.cell? ⟨w.heap.size + 1, 4, none⟩ = some (.int .i16 e4)) (ds := []) #[false, false, false, false, false, false, false] (by kernel_rfl) rfl rfl (x4) (fun hHeld => ?_)
  refine pure_ (i := 0) (N := some 14) (v := ?_) (a' := ?_) #[true, false, false, false, false, false, false] rfl rfl (by kernel_rfl) (fun _ _ _ h => h) (Or.inl ⟨by rfl, ?_⟩) ?_ ?_
  rotate_left
  · intro w'
    go_simp
    with_reducible rfl
  rotate_left
  · simp only [Act.put, List.setIfInBounds_toArray, List.set_cons_zero, List.set_cons_succ, i64_w, i32_w]
    rfl
  refine pure_ (i := 2) (N := some 16) (v := ?_) (a' := ?_) #[true, false, true, false, false, false, false] rfl rfl (by kernel_rfl) (fun _ _ _ h => h) (Or.inl ⟨by rfl, ?_⟩) ?_ ?_
  rotate_left
  · intro w'
    go_simp
    with_reducible rfl
  rotate_left
  · simp only [Act.put, List.setIfInBounds_toArray, List.set_cons_zero, List.set_cons_succ, i64_w, i32_w]
    rfl
  refine take_ (i := 3) (N := some 17) (v := ?_) (a' := ?_) #[true, false, true, true, false, false, false] rfl rfl (by kernel_rfl) (fun _ _ _ h => h) (Or.inl ⟨by rfl, ?_⟩) hHeld ?_ ?_
  rotate_left
  · intro w' s0
    go_simp
    with_reducible rfl
  rotate_left
  · simp only [Act.put, List.setIfInBounds_toArray, List.set_cons_zero, List.set_cons_succ, i64_w, i32_w]
    rfl
  refine pure_ (i := 4) (N := some 18) (v := ?_) (a' := ?_) #[true, false, true, true, true, false, false] rfl rfl (by kernel_rfl) (fun _ _ _ h => h) (Or.inl ⟨by rfl, ?_⟩) ?_ ?_
  rotate_left
  · intro w'
    go_simp
    with_reducible rfl
  rotate_left
  · simp only [Act.put, List.setIfInBounds_toArray, List.set_cons_zero, List.set_cons_succ, i64_w, i32_w]
    rfl
  refine one_ (i := 1) (N := some 15) #[true, true, true, true, true, false, false] rfl rfl (by kernel_rfl) (by decide) (fun K hK => ?_)
  refine goes_ Try.func80 (by kernel_rfl) rfl #[.slice A1 l1.length c1] (by rfl) rfl rfl (by simp only [List.map_toArray, List.map_cons, List.map_nil]; rfl) ?_
  with_reducible refine (cloneHold.calls A1 c1 l1 l1 _ (Kd.C_below HR.out B0.out) hc1 HCL.out).mono ?_
  rintro e w3 ⟨v0, rfl, hR, hb⟩
  refine ⟨_, rfl, ?_⟩
  refine hK.out _ _ (pw_cell_below hb hHeld) (fun hHeld => ?_)
  clear hK K
  have hR2 := Kd.R_lower hR (show w.heap.size + 2 ≤ _ by simp)
  clear hR
  obtain ⟨g, cap, rfl, -, -, -⟩ := Kd.R_form hR2 (show 0 < l1.length by omega)
  have hS3 : Ap.St w w3 g cap l1 p0 p1 f f 3 e4 := ⟨hR2, below_then B0.out B0.out.size hb, pw_cell_below hb (by simp), pw_cell_below hb (by simp), pw_cell_below hb (by simp), pw_cell_below hb (by simp), pw_cell_below hb (by simp), pw_cell_below hb (by simp)⟩
  clear hR2 hb x4 B0 hHeld
  refine norm_ (a' := ?_) ?_ ?_
  rotate_left
  · show Act.put _ (some 15) _ = _
    simp only [Act.put, List.setIfInBounds_toArray, List.set_cons_zero, List.set_cons_succ, i64_w, i32_w]
    rfl
  refine pure_ (i := 5) (N := some 8) (v := ?_) (a' := ?_) #[true, true, true, true, true, true, false] rfl rfl (by kernel_rfl) (fun _ _ _ h => h) (Or.inl ⟨by rfl, ?_⟩) ?_ ?_
  rotate_left
  · intro w'
    go_simp
    with_reducible rfl
  rotate_left
  · simp only [Act.put, List.setIfInBounds_toArray, List.set_cons_zero, List.set_cons_succ, i64_w, i32_w]
    rfl
  refine pure_ (i := 6) (N := some 9) (v := ?_) (a' := ?_) #[true, true, true, true, true, true, true] rfl rfl (by kernel_rfl) (fun _ _ _ h => h) (Or.inl ⟨by rfl, ?_⟩) ?_ ?_
  rotate_left
  · intro w'
    go_simp
    with_reducible rfl
  rotate_left
  · simp only [Act.put, List.setIfInBounds_toArray, List.set_cons_zero, List.set_cons_succ, i64_w, i32_w]
    rfl
  refine done_ (by kernel_rfl) ?_
  have c0_hS3 := hS3.c0; have c1_hS3 := hS3.c1; have d1_hS3 := hS3.d1; have d2_hS3 := hS3.d2; have d3_hS3 := hS3.d3; have d4_hS3 := hS3.d4
  go_wp2
  go_quiet (fail)
  clear c0_hS3 c1_hS3 d1_hS3 d2_hS3 d3_hS3 d4_hS3
  first
    | refine Ap.reletE (F := fun w' => Ap.St w w' g cap l1 p0 p1 f f 3 e4) (hS3.drewN _) ?_
    | refine Ap.reletI (F := fun w' => Ap.St w w' g cap l1 p0 p1 f f 3 e4) (hS3.drewN _) ?_
    | refine Ap.reletC (F := fun w' => Ap.St w w' g cap l1 p0 p1 f f 3 e4) (hS3.drewN _) ?_
  rintro w4 hS4
  clear hS3
  have c0_hS4 := hS4.c0; have c1_hS4 := hS4.c1; have d1_hS4 := hS4.d1; have d2_hS4 := hS4.d2; have d3_hS4 := hS4.d3; have d4_hS4 := hS4.d4
  obtain ⟨x0, x1, x2, x3, x4, fr_x⟩ := Ap.cells hS4.r (hf)
  rw [← HF.out] at x0 x1 x2 x3 x4
  go_wp2
  go_quiet (fail)
  clear c0_hS4 c1_hS4 d1_hS4 d2_hS4 d3_hS4 d4_hS4
  clear x0 x1 x2 x3 x4 fr_x
  first
    | refine Ap.reletE (F := fun w' => Ap.St w w' g cap l1 p0 p1 f f 3 e4) (hS4.drewN _) ?_
    | refine Ap.reletI (F := fun w' => Ap.St w w' g cap l1 p0 p1 f f 3 e4) (hS4.drewN _) ?_
    | refine Ap.reletC (F := fun w' => Ap.St w w' g cap l1 p0 p1 f f 3 e4) (hS4.drewN _) ?_
  rintro w5 hS5
  clear hS4
  have c0_hS5 := hS5.c0; have c1_hS5 := hS5.c1; have d1_hS5 := hS5.d1; have d2_hS5 := hS5.d2; have d3_hS5 := hS5.d3; have d4_hS5 := hS5.d4
  obtain ⟨x0, x1, x2, x3, x4, fr_x⟩ := Ap.cells hS5.r (hf)
  rw [← HF.out] at x0 x1 x2 x3 x4
  cases hlt : decide (F.f0 < wrap64 e4)
  case true =>
    have h := Hh.out
    rw [HF.out] at hlt
    rw [if_pos (of_decide_eq_true hlt)] at h
    rw [← HF.out] at hlt
    obtain ⟨rfl, rfl⟩ := Prod.mk.inj h
    clear h Hh
    go_wp2
    go_ret2
    exact ⟨_, rfl, Kd.R_nil _ _ _ _ _, hS5.b⟩
  have h := Hh.out
  rw [HF.out] at hlt
  rw [if_neg (of_decide_eq_false hlt)] at h
  rw [← HF.out] at hlt
  clear Hh
  have Hh := Lib.hid h
  clear h
  go_wp2
  go_region
  clear c0_hS5 c1_hS5 d1_hS5 d2_hS5 d3_hS5 d4_hS5
  clear x0 x1 x2 x3 x4 fr_x
  have s1 := hS5.at (Ap.put0 hS5.r hf (wrap64 (F.f0 - wrap64 e4)) HF.out.symm)
  have s2 := s1.at (Ap.put1 s1.r (by rw [List.length_set]; exact hf) (wrap64 (F.f1 + wrap64 e4)) (getD_set_self hf _ _))
  first
    | refine Ap.reletE (F := fun w' => Ap.St w w' g cap ((l1.set f (⟨wrap64 (F.f0 - wrap64 e4), F.f1, F.f2, F.f3, F.f4⟩ : H)).set f (⟨wrap64 (F.f0 - wrap64 e4), wrap64 (F.f1 + wrap64 e4), F.f2, F.f3, F.f4⟩ : H)) p0 p1 f f 3 e4) (s2.drew) ?_
    | refine Ap.reletI (F := fun w' => Ap.St w w' g cap ((l1.set f (⟨wrap64 (F.f0 - wrap64 e4), F.f1, F.f2, F.f3, F.f4⟩ : H)).set f (⟨wrap64 (F.f0 - wrap64 e4), wrap64 (F.f1 + wrap64 e4), F.f2, F.f3, F.f4⟩ : H)) p0 p1 f f 3 e4) (s2.drew) ?_
    | refine Ap.reletC (F := fun w' => Ap.St w w' g cap ((l1.set f (⟨wrap64 (F.f0 - wrap64 e4), F.f1, F.f2, F.f3, F.f4⟩ : H)).set f (⟨wrap64 (F.f0 - wrap64 e4), wrap64 (F.f1 + wrap64 e4), F.f2, F.f3, F.f4⟩ : H)) p0 p1 f f 3 e4) (s2.drew) ?_
  rintro w6 hS6
  clear s1 s2 hS5
  rw [List.set_set] at hS6
  obtain ⟨F2, hF2⟩ : ∃ y, y = (⟨wrap64 (F.f0 - wrap64 e4), wrap64 (F.f1 + wrap64 e4), F.f2, F.f3, F.f4⟩ : H) := ⟨_, rfl⟩
  rw [← hF2] at hS6
  have hgF : (l1.set f F2).getD f z71 = F2 := getD_set_self hf _ _
  have HF1 := Lib.hid hF2; clear hF2; have HgF := Lib.hid hgF; clear hgF
  have c0_hS6 := hS6.c0; have c1_hS6 := hS6.c1; have d1_hS6 := hS6.d1; have d2_hS6 := hS6.d2; have d3_hS6 := hS6.d3; have d4_hS6 := hS6.d4
  obtain ⟨x0, x1, x2, x3, x4, fr_x⟩ := Ap.cells hS6.r (by rw [List.length_set]; exact hf)
  rw [HgF.out] at x0 x1 x2 x3 x4
  have hres : (if hB F2 = true then ((l1.set f F2), (0 : Int)) else ([], 3)) = (r1, r2) := by rw [HF1.out, HF.out]; exact Hh.out
  clear Hh HF1 HgF HF
  cases bF2 : hB F2
  · simp only [bF2, Bool.false_and, if_neg Bool.false_ne_true] at hres
    obtain ⟨rfl, rfl⟩ := Prod.mk.inj hres
    clear hres
    have BF2 := Lib.hid (show heldB F2.f0 F2.f1 F2.f2 F2.f3 F2.f4 = false from bF2)
    clear bF2
    go_wp2_with (fail "a call")
    refine (impl_isHeld.calls F2.f0 F2.f1 F2.f2 F2.f3 F2.f4 false _ ((isHeld_tells ..).trans (congrArg some BF2.out))).mono ?_
    rintro e wa ⟨rfl, ha⟩
    go_wp2
    go_ret2
    exact ⟨_, rfl, Kd.R_nil _ _ _ _ _, below_then hS6.b hS6.b.size ha⟩
  · simp only [bF2, if_true] at hres
    obtain ⟨rfl, rfl⟩ := Prod.mk.inj hres
    clear hres
    have BF2 := Lib.hid (show heldB F2.f0 F2.f1 F2.f2 F2.f3 F2.f4 = true from bF2)
    clear bF2
    go_wp2_with (fail "a call")
    refine (impl_isHeld.calls F2.f0 F2.f1 F2.f2 F2.f3 F2.f4 true _ ((isHeld_tells ..).trans (congrArg some BF2.out))).mono ?_
    rintro e wa ⟨rfl, ha⟩
    replace x0 := pw_cell_below ha x0
    replace x1 := pw_cell_below ha x1
    replace x2 := pw_cell_below ha x2
    replace x3 := pw_cell_below ha x3
    replace x4 := pw_cell_below ha x4
    go_wp2_with (fail "a call")
    refine (impl_isHeld.calls F2.f0 F2.f1 F2.f2 F2.f3 F2.f4 true _ ((isHeld_tells ..).trans (congrArg some BF2.out))).mono ?_
    rintro e wb ⟨rfl, hb⟩
    have hr_ := Kd.R_lower (Kd.R_below (Kd.R_below hS6.r ha) hb) (show w.heap.size ≤ w.heap.size + 2 by omega)
    simp only [List.length_set] at hr_
    go_wp2
    go_ret2
    exact ⟨_, rfl, hr_, below_then (below_then hS6.b hS6.b.size ha) (below_then hS6.b hS6.b.size ha).size hb⟩
set_option maxHeartbeats 8000000 in
set_option maxRecDepth 100000 in
theorem w4 (A1 : Option Addr) (c1 : Nat) (l1 : List H) (p0 p1 e0 e4 : Int) (f : Nat) (r1 : List H) (r2 : Int) (w : World) (hr : Kd.C k71 w A1 l1.length l1) (hc1 : l1.length ≤ c1) (hl : l1.length ≤ 6) (hf : f < l1.length)
    (h : (if (l1.getD f z71).f0 < wrap64 e4 then ([], 4) else Ap.moveB 3 l1 f (wrap64 e4)) = (r1, r2)) :
    Calls Try.prog 46 #[.agg #[.int .i16 p0, .int .i16 p1], .slice A1 l1.length c1, .agg #[.int .i16 e0, .int .i8 f, .int .i8 f, .int .u8 4, .int .i16 e4]] w fun e w' => ∃ v : Value, e = .returned (.tuple #[v, .int .i64 r2]) ∧ Kd.R k71 71 w' w.heap.size (fun _ => True) v r1 ∧ Below w.heap.size w w' := by
  have HCL := Lib.hid (show cloneHold.f l1 = some l1 by unfold cloneHold.f; rw [if_pos (by omega)])
  have HR := Aside0.mk hr
  clear hr
  have Hh := Lib.hid h
  clear h
  obtain ⟨F, hF⟩ : ∃ F, F = l1.getD f z71 := ⟨_, rfl⟩
  have HF := Lib.hid hF
  clear hF
  have hf1 : decide ((f : Int) < (l1.length : Int)) = true := decide_eq_true (by omega)
  have hfz : decide (f < l1.length) = true := decide_eq_true hf
  have hfz2 := hf
  go_enter Try.func46, Try.ntmps46
  go_wp2
  have B0 : Aside0 (Below w.heap.size w ((w.alloc (.cells #[.int .i16 p0, .int .i16 p1] 33)).alloc (.cells #[.int .i16 e0, .int .i8 (f : Int), .int .i8 (f : Int), .int .u8 4, .int .i16 e4] 36)).drew) := ⟨below_drew1 (((Below.refl _ _).alloc (Nat.le_refl _) _).alloc (by simp) _)⟩
  have x4 : ((w.alloc (.cells #[.int .i16 p0, .int .i16 p1] 33)).alloc (.cells #[.int .i16 e0, .int .i8 (f : Int), .int .i8 (f : Int), .int .u8 4, .int .i16 e4] 36)).drew.cell? ⟨w.heap.size + 1, 4, none⟩ = some (.int .i16 e4) := by simp
  refine start_ (n := 7) (S := fun w' => w'.cell? ⟨w.heap.size + 1, 4, none⟩ = some (.int .i16 e4)) (ds := []) #[false, false, false, false, false, false, false] (by kernel_rfl) rfl rfl (x4) (fun hHeld => ?_)
  refine pure_ (i := 0) (N := some 14) (v := ?_) (a' := ?_) #[true, false, false, false, false, false, false] rfl rfl (by kernel_rfl) (fun _ _ _ h => h) (Or.inl ⟨by rfl, ?_⟩) ?_ ?_
  rotate_left
  · intro w'
    go_simp
    with_reducible rfl
  rotate_left
  · simp only [Act.put, List.setIfInBounds_toArray, List.set_cons_zero, List.set_cons_succ, i64_w, i32_w]
    rfl
  refine pure_ (i := 2) (N := some 16) (v := ?_) (a' := ?_) #[true, false, true, false, false, false, false] rfl rfl (by kernel_rfl) (fun _ _ _ h => h) (Or.inl ⟨by rfl, ?_⟩) ?_ ?_
  rotate_left
  · intro w'
    go_simp
    with_reducible rfl
  rotate_left
  · simp only [Act.put, List.setIfInBounds_toArray, List.set_cons_zero, List.set_cons_succ, i64_w, i32_w]
    rfl
  refine take_ (i := 3) (N := some 17) (v := ?_) (a' := ?_) #[true, false, true, true, false, false, false] rfl rfl (by kernel_rfl) (fun _ _ _ h => h) (Or.inl ⟨by rfl, ?_⟩) hHeld ?_ ?_
  rotate_left
  · intro w' s0
    go_simp
    with_reducible rfl
  rotate_left
  · simp only [Act.put, List.setIfInBounds_toArray, List.set_cons_zero, List.set_cons_succ, i64_w, i32_w]
    rfl
  refine pure_ (i := 4) (N := some 18) (v := ?_) (a' := ?_) #[true, false, true, true, true, false, false] rfl rfl (by kernel_rfl) (fun _ _ _ h => h) (Or.inl ⟨by rfl, ?_⟩) ?_ ?_
  rotate_left
  · intro w'
    go_simp
    with_reducible rfl
  rotate_left
  · simp only [Act.put, List.setIfInBounds_toArray, List.set_cons_zero, List.set_cons_succ, i64_w, i32_w]
    rfl
  refine one_ (i := 1) (N := some 15) #[true, true, true, true, true, false, false] rfl rfl (by kernel_rfl) (by decide) (fun K hK => ?_)
  refine goes_ Try.func80 (by kernel_rfl) rfl #[.slice A1 l1.length c1] (by rfl) rfl rfl (by simp only [List.map_toArray, List.map_cons, List.map_nil]; rfl) ?_
  with_reducible refine (cloneHold.calls A1 c1 l1 l1 _ (Kd.C_below HR.out B0.out) hc1 HCL.out).mono ?_
  rintro e w3 ⟨v0, rfl, hR, hb⟩
  refine ⟨_, rfl, ?_⟩
  refine hK.out _ _ (pw_cell_below hb hHeld) (fun hHeld => ?_)
  clear hK K
  have hR2 := Kd.R_lower hR (show w.heap.size + 2 ≤ _ by simp)
  clear hR
  obtain ⟨g, cap, rfl, -, -, -⟩ := Kd.R_form hR2 (show 0 < l1.length by omega)
  have hS3 : Ap.St w w3 g cap l1 p0 p1 f f 4 e4 := ⟨hR2, below_then B0.out B0.out.size hb, pw_cell_below hb (by simp), pw_cell_below hb (by simp), pw_cell_below hb (by simp), pw_cell_below hb (by simp), pw_cell_below hb (by simp), pw_cell_below hb (by simp)⟩
  clear hR2 hb x4 B0 hHeld
  refine norm_ (a' := ?_) ?_ ?_
  rotate_left
  · show Act.put _ (some 15) _ = _
    simp only [Act.put, List.setIfInBounds_toArray, List.set_cons_zero, List.set_cons_succ, i64_w, i32_w]
    rfl
  refine pure_ (i := 5) (N := some 8) (v := ?_) (a' := ?_) #[true, true, true, true, true, true, false] rfl rfl (by kernel_rfl) (fun _ _ _ h => h) (Or.inl ⟨by rfl, ?_⟩) ?_ ?_
  rotate_left
  · intro w'
    go_simp
    with_reducible rfl
  rotate_left
  · simp only [Act.put, List.setIfInBounds_toArray, List.set_cons_zero, List.set_cons_succ, i64_w, i32_w]
    rfl
  refine pure_ (i := 6) (N := some 9) (v := ?_) (a' := ?_) #[true, true, true, true, true, true, true] rfl rfl (by kernel_rfl) (fun _ _ _ h => h) (Or.inl ⟨by rfl, ?_⟩) ?_ ?_
  rotate_left
  · intro w'
    go_simp
    with_reducible rfl
  rotate_left
  · simp only [Act.put, List.setIfInBounds_toArray, List.set_cons_zero, List.set_cons_succ, i64_w, i32_w]
    rfl
  refine done_ (by kernel_rfl) ?_
  have c0_hS3 := hS3.c0; have c1_hS3 := hS3.c1; have d1_hS3 := hS3.d1; have d2_hS3 := hS3.d2; have d3_hS3 := hS3.d3; have d4_hS3 := hS3.d4
  go_wp2
  go_quiet (fail)
  clear c0_hS3 c1_hS3 d1_hS3 d2_hS3 d3_hS3 d4_hS3
  first
    | refine Ap.reletE (F := fun w' => Ap.St w w' g cap l1 p0 p1 f f 4 e4) (hS3.drewN _) ?_
    | refine Ap.reletI (F := fun w' => Ap.St w w' g cap l1 p0 p1 f f 4 e4) (hS3.drewN _) ?_
    | refine Ap.reletC (F := fun w' => Ap.St w w' g cap l1 p0 p1 f f 4 e4) (hS3.drewN _) ?_
  rintro w4 hS4
  clear hS3
  have c0_hS4 := hS4.c0; have c1_hS4 := hS4.c1; have d1_hS4 := hS4.d1; have d2_hS4 := hS4.d2; have d3_hS4 := hS4.d3; have d4_hS4 := hS4.d4
  obtain ⟨x0, x1, x2, x3, x4, fr_x⟩ := Ap.cells hS4.r (hf)
  rw [← HF.out] at x0 x1 x2 x3 x4
  go_wp2
  go_quiet (fail)
  clear c0_hS4 c1_hS4 d1_hS4 d2_hS4 d3_hS4 d4_hS4
  clear x0 x1 x2 x3 x4 fr_x
  first
    | refine Ap.reletE (F := fun w' => Ap.St w w' g cap l1 p0 p1 f f 4 e4) (hS4.drewN _) ?_
    | refine Ap.reletI (F := fun w' => Ap.St w w' g cap l1 p0 p1 f f 4 e4) (hS4.drewN _) ?_
    | refine Ap.reletC (F := fun w' => Ap.St w w' g cap l1 p0 p1 f f 4 e4) (hS4.drewN _) ?_
  rintro w5 hS5
  clear hS4
  have c0_hS5 := hS5.c0; have c1_hS5 := hS5.c1; have d1_hS5 := hS5.d1; have d2_hS5 := hS5.d2; have d3_hS5 := hS5.d3; have d4_hS5 := hS5.d4
  obtain ⟨x0, x1, x2, x3, x4, fr_x⟩ := Ap.cells hS5.r (hf)
  rw [← HF.out] at x0 x1 x2 x3 x4
  cases hlt : decide (F.f0 < wrap64 e4)
  case true =>
    have h := Hh.out
    rw [HF.out] at hlt
    rw [if_pos (of_decide_eq_true hlt)] at h
    rw [← HF.out] at hlt
    obtain ⟨rfl, rfl⟩ := Prod.mk.inj h
    clear h Hh
    go_wp2
    go_ret2
    exact ⟨_, rfl, Kd.R_nil _ _ _ _ _, hS5.b⟩
  have h := Hh.out
  rw [HF.out] at hlt
  rw [if_neg (of_decide_eq_false hlt)] at h
  rw [← HF.out] at hlt
  clear Hh
  have Hh := Lib.hid h
  clear h
  go_wp2
  go_region
  clear c0_hS5 c1_hS5 d1_hS5 d2_hS5 d3_hS5 d4_hS5
  clear x0 x1 x2 x3 x4 fr_x
  have s1 := hS5.at (Ap.put0 hS5.r hf (wrap64 (F.f0 - wrap64 e4)) HF.out.symm)
  have s2 := s1.at (Ap.put3 s1.r (by rw [List.length_set]; exact hf) (wrap64 (F.f3 + wrap64 e4)) (getD_set_self hf _ _))
  first
    | refine Ap.reletE (F := fun w' => Ap.St w w' g cap ((l1.set f (⟨wrap64 (F.f0 - wrap64 e4), F.f1, F.f2, F.f3, F.f4⟩ : H)).set f (⟨wrap64 (F.f0 - wrap64 e4), F.f1, F.f2, wrap64 (F.f3 + wrap64 e4), F.f4⟩ : H)) p0 p1 f f 4 e4) (s2.drew) ?_
    | refine Ap.reletI (F := fun w' => Ap.St w w' g cap ((l1.set f (⟨wrap64 (F.f0 - wrap64 e4), F.f1, F.f2, F.f3, F.f4⟩ : H)).set f (⟨wrap64 (F.f0 - wrap64 e4), F.f1, F.f2, wrap64 (F.f3 + wrap64 e4), F.f4⟩ : H)) p0 p1 f f 4 e4) (s2.drew) ?_
    | refine Ap.reletC (F := fun w' => Ap.St w w' g cap ((l1.set f (⟨wrap64 (F.f0 - wrap64 e4), F.f1, F.f2, F.f3, F.f4⟩ : H)).set f (⟨wrap64 (F.f0 - wrap64 e4), F.f1, F.f2, wrap64 (F.f3 + wrap64 e4), F.f4⟩ : H)) p0 p1 f f 4 e4) (s2.drew) ?_
  rintro w6 hS6
  clear s1 s2 hS5
  rw [List.set_set] at hS6
  obtain ⟨F2, hF2⟩ : ∃ y, y = (⟨wrap64 (F.f0 - wrap64 e4), F.f1, F.f2, wrap64 (F.f3 + wrap64 e4), F.f4⟩ : H) := ⟨_, rfl⟩
  rw [← hF2] at hS6
  have hgF : (l1.set f F2).getD f z71 = F2 := getD_set_self hf _ _
  have HF1 := Lib.hid hF2; clear hF2; have HgF := Lib.hid hgF; clear hgF
  have c0_hS6 := hS6.c0; have c1_hS6 := hS6.c1; have d1_hS6 := hS6.d1; have d2_hS6 := hS6.d2; have d3_hS6 := hS6.d3; have d4_hS6 := hS6.d4
  obtain ⟨x0, x1, x2, x3, x4, fr_x⟩ := Ap.cells hS6.r (by rw [List.length_set]; exact hf)
  rw [HgF.out] at x0 x1 x2 x3 x4
  have hres : (if hB F2 = true then ((l1.set f F2), (0 : Int)) else ([], 3)) = (r1, r2) := by rw [HF1.out, HF.out]; exact Hh.out
  clear Hh HF1 HgF HF
  cases bF2 : hB F2
  · simp only [bF2, Bool.false_and, if_neg Bool.false_ne_true] at hres
    obtain ⟨rfl, rfl⟩ := Prod.mk.inj hres
    clear hres
    have BF2 := Lib.hid (show heldB F2.f0 F2.f1 F2.f2 F2.f3 F2.f4 = false from bF2)
    clear bF2
    go_wp2_with (fail "a call")
    refine (impl_isHeld.calls F2.f0 F2.f1 F2.f2 F2.f3 F2.f4 false _ ((isHeld_tells ..).trans (congrArg some BF2.out))).mono ?_
    rintro e wa ⟨rfl, ha⟩
    go_wp2
    go_ret2
    exact ⟨_, rfl, Kd.R_nil _ _ _ _ _, below_then hS6.b hS6.b.size ha⟩
  · simp only [bF2, if_true] at hres
    obtain ⟨rfl, rfl⟩ := Prod.mk.inj hres
    clear hres
    have BF2 := Lib.hid (show heldB F2.f0 F2.f1 F2.f2 F2.f3 F2.f4 = true from bF2)
    clear bF2
    go_wp2_with (fail "a call")
    refine (impl_isHeld.calls F2.f0 F2.f1 F2.f2 F2.f3 F2.f4 true _ ((isHeld_tells ..).trans (congrArg some BF2.out))).mono ?_
    rintro e wa ⟨rfl, ha⟩
    replace x0 := pw_cell_below ha x0
    replace x1 := pw_cell_below ha x1
    replace x2 := pw_cell_below ha x2
    replace x3 := pw_cell_below ha x3
    replace x4 := pw_cell_below ha x4
    go_wp2_with (fail "a call")
    refine (impl_isHeld.calls F2.f0 F2.f1 F2.f2 F2.f3 F2.f4 true _ ((isHeld_tells ..).trans (congrArg some BF2.out))).mono ?_
    rintro e wb ⟨rfl, hb⟩
    have hr_ := Kd.R_lower (Kd.R_below (Kd.R_below hS6.r ha) hb) (show w.heap.size ≤ w.heap.size + 2 by omega)
    simp only [List.length_set] at hr_
    go_wp2
    go_ret2
    exact ⟨_, rfl, hr_, below_then (below_then hS6.b hS6.b.size ha) (below_then hS6.b hS6.b.size ha).size hb⟩
end Ap
end Go.Proofs.Ytncbgnlojabpfaa.G
