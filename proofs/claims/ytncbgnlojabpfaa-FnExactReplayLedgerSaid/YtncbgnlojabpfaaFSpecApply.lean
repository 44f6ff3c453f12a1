/- spec.l06Apply, walked by hand. Printed by wip/tools/aps.py. -/
import Derived.Test.YtncbgnlojabpfaaFApLib
import Derived.Test.YtncbgnlojabpfaaPl
import Derived.BigQuiet
namespace Go.Proofs.Ytncbgnlojabpfaa.G
open Go.RowKit Go.Proofs.YtncbgnlojabpfaaW.PrintWords Go.Proofs.YtncbgnlojabpfaaW.PrintLast Go.Proofs.YtncbgnlojabpfaaW.PrintMore
attribute [local go_sem] max2_int min2_int max_two min_two max_three min_three max_four min_four   -- for this text's walks alone
set_option linter.unusedVariables false
set_option linter.unusedSimpArgs false

open Go.Proofs.Ytncbgnlojabpfaa.Wk Go.Proofs.Ytncbgnlojabpfaa.Pl
namespace Ap
set_option maxHeartbeats 8000000 in
set_option maxRecDepth 100000 in
theorem s0 (A1 : Option Addr) (c1 : Nat) (l1 : List H) (p0 p1 e4 : Int) (a : Addr) (f t : Nat) (r1 : List H) (r2 : Int) (w : World) (hr : Kd.C k71 w A1 l1.length l1) (hc1 : l1.length ≤ c1) (hl : l1.length ≤ 6) (hf : f < l1.length) (ht : t < l1.length) (hft : f ≠ t)
    (x1 : w.cell? ⟨a.block, a.off + 1, none⟩ = some (.int .i8 (f : Int))) (x2 : w.cell? ⟨a.block, a.off + 2, none⟩ = some (.int .i8 (t : Int))) (x3 : w.cell? ⟨a.block, a.off + 3, none⟩ = some (.int .u8 0)) (x4 : w.cell? ⟨a.block, a.off + 4, none⟩ = some (.int .i16 e4))
    (hn : (decide ((Ap.take 0 (l1.getD f z71) (wrap64 e4)).f0 < 0) = true ∧ (([] : List H), (4 : Int)) = (r1, r2)) ∨ (decide ((Ap.take 0 (l1.getD f z71) (wrap64 e4)).f0 < 0) = false ∧ decide ((Ap.take 0 (l1.getD f z71) (wrap64 e4)).f1 < 0) = true ∧ (([] : List H), (4 : Int)) = (r1, r2)) ∨ (decide ((Ap.take 0 (l1.getD f z71) (wrap64 e4)).f0 < 0) = false ∧ decide ((Ap.take 0 (l1.getD f z71) (wrap64 e4)).f1 < 0) = false ∧ decide ((Ap.take 0 (l1.getD f z71) (wrap64 e4)).f2 < 0) = true ∧ (([] : List H), (4 : Int)) = (r1, r2)) ∨ (decide ((Ap.take 0 (l1.getD f z71) (wrap64 e4)).f0 < 0) = false ∧ decide ((Ap.take 0 (l1.getD f z71) (wrap64 e4)).f1 < 0) = false ∧ decide ((Ap.take 0 (l1.getD f z71) (wrap64 e4)).f2 < 0) = false ∧ Ap.moveA 0 l1 f t (wrap64 e4) (wrap64 p0) = (r1, r2))) :
    Calls Try.prog 40 #[.agg #[.int .i16 p0, .int .i16 p1], .slice A1 l1.length c1, .pointer (some a)] w fun e w' => ∃ v : Value, e = .returned (.tuple #[v, .int .i64 r2]) ∧ Kd.R k71 71 w' w.heap.size (fun _ => True) v r1 ∧ Below w.heap.size w w' := by
  have HR := Aside0.mk hr; have X1 := Lib.hid x1; have X2 := Lib.hid x2; have X3 := Lib.hid x3; have X4 := Lib.hid x4
  clear hr x1 x2 x3 x4
  obtain ⟨F, hF⟩ : ∃ F, F = l1.getD f z71 := ⟨_, rfl⟩
  have HF := Lib.hid hF
  clear hF
  obtain ⟨T, hT⟩ : ∃ T, T = l1.getD t z71 := ⟨_, rfl⟩
  have HT := Lib.hid hT
  clear hT
  have Hn := Lib.hid (fun (y : H) (hy : y = Ap.take 0 F (wrap64 e4)) => show (decide (y.f0 < 0) = true ∧ (([] : List H), (4 : Int)) = (r1, r2)) ∨ (decide (y.f0 < 0) = false ∧ decide (y.f1 < 0) = true ∧ (([] : List H), (4 : Int)) = (r1, r2)) ∨ (decide (y.f0 < 0) = false ∧ decide (y.f1 < 0) = false ∧ decide (y.f2 < 0) = true ∧ (([] : List H), (4 : Int)) = (r1, r2)) ∨ (decide (y.f0 < 0) = false ∧ decide (y.f1 < 0) = false ∧ decide (y.f2 < 0) = false ∧ Ap.moveA 0 l1 f t (wrap64 e4) (wrap64 p0) = (r1, r2)) by rw [hy, HF.out]; exact hn)
  clear hn
  have hf1 : decide ((f : Int) < (l1.length : Int)) = true := decide_eq_true (by omega)
  have hfz : decide (f < l1.length) = true := decide_eq_true hf
  have ht1 : decide ((t : Int) < (l1.length : Int)) = true := decide_eq_true (by omega)
  have htz : decide (t < l1.length) = true := decide_eq_true ht
  have hfe : ((f : Int) == (t : Int)) = false := by rw [beq_eq_false_iff_ne]; omega
  have hfq : ((f : Int) != (t : Int)) = true := by rw [bne_iff_ne]; omega
  go_enter Try.func40, Try.ntmps40
  have B0 : Aside0 (Below w.heap.size w (w.alloc (.cells #[.int .i16 p0, .int .i16 p1] 33))) := ⟨(Below.refl _ _).alloc (Nat.le_refl _) _⟩
  go_wp2_with (first | ((with_reducible refine gate_dst (N := 13) rfl ?_); refine Kd.R_lit k71 _ 71 ?hg (N := 13) ?hd (xs := ([] : List Ap.H)) (inner := []) (ok := fun _ => True) (okp := fun _ => True) ?hr ?hp (fun _ hk => hk) trivial (Below.refl _ _) (Nat.le_refl _) (by simp) ?_; (case hd => rfl); (case hg => rfl); (case hr => first | (go_simp; done) | (go_simp; rfl)); (case hp => exact (Reps.none _ _)); intro vl wl hol hbl hg_ hnew_; clear hg_ hnew_; have HOl := Aside0.mk hol; have HBl := Aside0.mk hbl; clear hol hbl) | ((with_reducible refine gate_builtin (b := .append) (xs := #[.tmp 13, .tmp 14]) rfl ?_); at_builtin; refine Kd.R_append_rows k71 (w0 := (w.alloc (.cells #[.int .i16 p0, .int .i16 p1] 33))) (w.alloc (.cells #[.int .i16 p0, .int .i16 p1] 33)).heap.size rfl (.tmp 13) (.tmp 14) 30 71 (.agg #[.int .i64 0, .int .i64 0, .int .i64 0, .int .i64 0, .int .i64 0]) 40 rfl Try.underlying30 info71 rfl (by decide) (by omega) vl ([] : List Ap.H) l1 _ _ _ (fun _ => True) (fun _ => False) rfl rfl ?aO ?aR (fun _ _ h => h) (fun _ h => h.elim) ?aF ?aB ?aS ?aL ?_; (case aR => exact Kd.C_below HR.out (below_then B0.out B0.out.size HBl.out)); (case aB => exact HBl.out); (case aF => exact fun _ _ => trivial); (case aO => exact HOl.out); (case aS => exact HBl.out.size); (case aL => simp only [List.length_nil, Nat.zero_add]; omega); intro v466 w5 ho hb2 hg hat; clear hg hat; have hR2 : Kd.R k71 71 w5 (w.heap.size + 1) (fun _ => True) v466 l1 := Kd.R_lower ho (show w.heap.size + 1 ≤ _ by simp); clear ho HOl HBl; obtain ⟨g, cap, rfl, -, -, -⟩ := Kd.R_form hR2 (show 0 < l1.length by omega); have hS5 : Ap.St2 w w5 g cap l1 p0 p1 := ⟨hR2, below_then B0.out B0.out.size hb2, hb2.cell (p := ⟨w.heap.size, 0, none⟩) (by simp) |>.trans (by simp), hb2.cell (p := ⟨w.heap.size, 1, none⟩) (by simp) |>.trans (by simp)⟩; clear hR2 hb2; have c0_hS5 := hS5.c0; have c1_hS5 := hS5.c1; have u1_hS5 := pw_cell_below hS5.b X1.out; have u2_hS5 := pw_cell_below hS5.b X2.out; have u3_hS5 := pw_cell_below hS5.b X3.out; have u4_hS5 := pw_cell_below hS5.b X4.out; obtain ⟨x0, x1, x2, x3, x4, fr_x⟩ := Ap.cells hS5.r (hf); rw [← HF.out] at x0 x1 x2 x3 x4; obtain ⟨y0, y1, y2, y3, y4, -⟩ := Ap.cells hS5.r ht; rw [← HT.out] at y0 y1 y2 y3 y4) | ((with_reducible refine gate_store (t := 2) (p := 49) rfl ?_); refine store_event (t := 2) (p := 49) (v := ?vo_w6) (w1 := (w5.setCell ⟨g, f * 5, none⟩ (.int .i64 (wrap64 (F.f0 - wrap64 e4))))) ?hg ?ho ?hn ?hr ?_; (case ho => rfl); (case hg => rfl); (case hn => rfl); (case hr => first | (go_simp; done) | (go_simp; rfl)); intro w6 hw_; have hS6 : Ap.St2 w w6 g cap (l1.set f (⟨wrap64 (F.f0 - wrap64 e4), F.f1, F.f2, F.f3, F.f4⟩ : Ap.H)) p0 p1 := (by rw [hw_]; exact hS5.at (Ap.put0 hS5.r hf _ HF.out.symm)); clear hw_; clear c0_hS5 c1_hS5 u1_hS5 u2_hS5 u3_hS5 u4_hS5; clear x0 x1 x2 x3 x4 fr_x; clear y0 y1 y2 y3 y4; clear hS5; have c0_hS6 := hS6.c0; have c1_hS6 := hS6.c1; have u1_hS6 := pw_cell_below hS6.b X1.out; have u2_hS6 := pw_cell_below hS6.b X2.out; have u3_hS6 := pw_cell_below hS6.b X3.out; have u4_hS6 := pw_cell_below hS6.b X4.out; obtain ⟨y0, y1, y2, y3, y4, fr_y⟩ := Ap.cells hS6.r (by rw [List.length_set]; exact ht); rw [Ap.other _ hft, ← HT.out] at y0 y1 y2 y3 y4) | ((with_reducible refine gate_store (t := 2) (p := 57) rfl ?_); refine store_event (t := 2) (p := 57) (v := ?vo_w7) (w1 := (w6.setCell ⟨g, t * 5, none⟩ (.int .i64 (wrap64 (T.f0 + wrap64 e4))))) ?hg ?ho ?hn ?hr ?_; (case ho => rfl); (case hg => rfl); (case hn => rfl); (case hr => first | (go_simp; done) | (go_simp; rfl)); intro w7 hw_; have hS7 : Ap.St2 w w7 g cap ((l1.set f (⟨wrap64 (F.f0 - wrap64 e4), F.f1, F.f2, F.f3, F.f4⟩ : Ap.H)).set t (⟨wrap64 (T.f0 + wrap64 e4), T.f1, T.f2, T.f3, T.f4⟩ : Ap.H)) p0 p1 := (by rw [hw_]; exact hS6.at (Ap.put0 hS6.r (by rw [List.length_set]; exact ht) _ (by rw [Ap.other _ hft]; exact HT.out.symm))); clear hw_; clear c0_hS6 c1_hS6 u1_hS6 u2_hS6 u3_hS6 u4_hS6; clear y0 y1 y2 y3 y4 fr_y; clear hS6; obtain ⟨F1, hF1⟩ : ∃ y, y = (⟨wrap64 (F.f0 - wrap64 e4), F.f1, F.f2, F.f3, F.f4⟩ : Ap.H) := ⟨_, rfl⟩; obtain ⟨T1, hT1⟩ : ∃ y, y = (⟨wrap64 (T.f0 + wrap64 e4), T.f1, T.f2, T.f3, T.f4⟩ : Ap.H) := ⟨_, rfl⟩; rw [← hF1, ← hT1] at hS7; have hgF : ((l1.set f F1).set t T1).getD f z71 = F1 := (by rw [Ap.other _ (Ne.symm hft)]; exact getD_set_self hf _ _); have hgT : ((l1.set f F1).set t T1).getD t z71 = T1 := getD_set_self (by rw [List.length_set]; exact ht) _ _; have HF1 := Lib.hid hF1; have HT1 := Lib.hid hT1; clear hF1 hT1; have HgF := Lib.hid hgF; have HgT := Lib.hid hgT; clear hgF hgT; have c0_hS7 := hS7.c0; have c1_hS7 := hS7.c1; have u1_hS7 := pw_cell_below hS7.b X1.out; have u2_hS7 := pw_cell_below hS7.b X2.out; have u3_hS7 := pw_cell_below hS7.b X3.out; have u4_hS7 := pw_cell_below hS7.b X4.out; obtain ⟨x0, x1, x2, x3, x4, fr_x⟩ := Ap.cells hS7.r (by simp only [List.length_set]; exact hf); rw [HgF.out] at x0 x1 x2 x3 x4; obtain ⟨y0, y1, y2, y3, y4, fr_y⟩ := Ap.cells hS7.r (by simp only [List.length_set]; exact ht); rw [HgT.out] at y0 y1 y2 y3 y4; have hn_ := Hn.out F1 HF1.out; clear Hn; rcases hn_ with ⟨n0, hh_⟩ | ⟨n0, n1, hh_⟩ | ⟨n0, n1, n2, hh_⟩ | ⟨n0, n1, n2, hh_⟩ <;> (have Hh := Lib.hid hh_; clear hh_)) | ((with_reducible refine gate_dst (N := 152) rfl ?_); refine Kd.R_lit k71 _ 71 ?hg (N := 152) ?hd (xs := ([] : List Ap.H)) (inner := []) (ok := fun _ => True) (okp := fun _ => True) ?hr ?hp (fun _ hk => hk) trivial (Below.refl _ _) (Nat.le_refl _) (by simp) ?_; (case hd => rfl); (case hg => rfl); (case hr => first | (go_simp; done) | (go_simp; rfl)); (case hp => exact (Reps.none _ _)); intro vl wl hol hbl hg_ hnew_; clear hg_ hnew_; have HOn := Aside0.mk hol; have HBn := Aside0.mk hbl; clear hol hbl))
  iterate 3
    · obtain ⟨rfl, rfl⟩ := Prod.mk.inj Hh.out
      go_ret2
      exact ⟨_, rfl, Kd.R_lower HOn.out hS7.b.size, below_then hS7.b hS7.b.size HBn.out⟩
  go_quiet (fail)
  clear c0_hS7 c1_hS7 u1_hS7 u2_hS7 u3_hS7 u4_hS7
  clear x0 x1 x2 x3 x4 fr_x
  clear y0 y1 y2 y3 y4 fr_y
  first
    | refine Ap.reletE (F := fun w' => Ap.St2 w w' g cap ((l1.set f F1).set t T1) p0 p1) (hS7.drewN _) ?_
    | refine Ap.reletI (F := fun w' => Ap.St2 w w' g cap ((l1.set f F1).set t T1) p0 p1) (hS7.drewN _) ?_
    | refine Ap.reletC (F := fun w' => Ap.St2 w w' g cap ((l1.set f F1).set t T1) p0 p1) (hS7.drewN _) ?_
  rintro w8 hS8
  clear hS7
  have c0_hS8 := hS8.c0; have c1_hS8 := hS8.c1
  have u1_hS8 := pw_cell_below hS8.b X1.out; have u2_hS8 := pw_cell_below hS8.b X2.out; have u3_hS8 := pw_cell_below hS8.b X3.out; have u4_hS8 := pw_cell_below hS8.b X4.out
  obtain ⟨x0, x1, x2, x3, x4, fr_x⟩ := Ap.cells hS8.r (by simp only [List.length_set]; exact hf)
  rw [HgF.out] at x0 x1 x2 x3 x4
  obtain ⟨y0, y1, y2, y3, y4, fr_y⟩ := Ap.cells hS8.r (by simp only [List.length_set]; exact ht)
  rw [HgT.out] at y0 y1 y2 y3 y4
  go_wp2_with (first | ((with_reducible refine gate_store (t := 2) (p := 171) rfl ?_); refine store_event (t := 2) (p := 171) (v := ?vo_w9) (w1 := (w8.setCell ⟨g, f * 5 + 4, none⟩ (.int .i64 (wrap64 (F1.f4 + wrap64 (wrap64 e4 * wrap64 p0)))))) ?hg ?ho ?hn ?hr ?_; (case ho => rfl); (case hg => rfl); (case hn => rfl); (case hr => first | (go_simp; done) | (go_simp; rfl)); intro w9 hw_; have hS9 : Ap.St2 w w9 g cap (((l1.set f F1).set t T1).set f (⟨F1.f0, F1.f1, F1.f2, F1.f3, wrap64 (F1.f4 + wrap64 (wrap64 e4 * wrap64 p0))⟩ : Ap.H)) p0 p1 := (by rw [hw_]; exact hS8.at (Ap.put4 hS8.r (by simp only [List.length_set]; exact hf) _ HgF.out)); clear hw_; clear c0_hS8 c1_hS8 u1_hS8 u2_hS8 u3_hS8 u4_hS8; clear x0 x1 x2 x3 x4 fr_x; clear y0 y1 y2 y3 y4 fr_y; clear hS8; have c0_hS9 := hS9.c0; have c1_hS9 := hS9.c1; have u1_hS9 := pw_cell_below hS9.b X1.out; have u2_hS9 := pw_cell_below hS9.b X2.out; have u3_hS9 := pw_cell_below hS9.b X3.out; have u4_hS9 := pw_cell_below hS9.b X4.out; obtain ⟨y0, y1, y2, y3, y4, fr_y⟩ := Ap.cells hS9.r (by simp only [List.length_set]; exact ht); rw [Ap.other _ hft, HgT.out] at y0 y1 y2 y3 y4) | ((with_reducible refine gate_store (t := 2) (p := 181) rfl ?_); refine store_event (t := 2) (p := 181) (v := ?vo_w10) (w1 := (w9.setCell ⟨g, t * 5 + 4, none⟩ (.int .i64 (wrap64 (T1.f4 - wrap64 (wrap64 e4 * wrap64 p0)))))) ?hg ?ho ?hn ?hr ?_; (case ho => rfl); (case hg => rfl); (case hn => rfl); (case hr => first | (go_simp; done) | (go_simp; rfl)); intro w10 hw_; have hS10 : Ap.St2 w w10 g cap ((((l1.set f F1).set t T1).set f (⟨F1.f0, F1.f1, F1.f2, F1.f3, wrap64 (F1.f4 + wrap64 (wrap64 e4 * wrap64 p0))⟩ : Ap.H)).set t (⟨T1.f0, T1.f1, T1.f2, T1.f3, wrap64 (T1.f4 - wrap64 (wrap64 e4 * wrap64 p0))⟩ : Ap.H)) p0 p1 := (by rw [hw_]; exact hS9.at (Ap.put4 hS9.r (by simp only [List.length_set]; exact ht) _ (by rw [Ap.other _ hft]; exact HgT.out))); clear hw_; clear c0_hS9 c1_hS9 u1_hS9 u2_hS9 u3_hS9 u4_hS9; clear y0 y1 y2 y3 y4 fr_y; clear hS9; have he : ((((l1.set f F1).set t T1).set f (⟨F1.f0, F1.f1, F1.f2, F1.f3, wrap64 (F1.f4 + wrap64 (wrap64 e4 * wrap64 p0))⟩ : Ap.H)).set t (⟨T1.f0, T1.f1, T1.f2, T1.f3, wrap64 (T1.f4 - wrap64 (wrap64 e4 * wrap64 p0))⟩ : Ap.H)) = (l1.set f (⟨F1.f0, F1.f1, F1.f2, F1.f3, wrap64 (F1.f4 + wrap64 (wrap64 e4 * wrap64 p0))⟩ : Ap.H)).set t (⟨T1.f0, T1.f1, T1.f2, T1.f3, wrap64 (T1.f4 - wrap64 (wrap64 e4 * wrap64 p0))⟩ : Ap.H) := Ap.both hft _ _ _ _; rw [he] at hS10; clear he; obtain ⟨F2, hF2⟩ : ∃ y, y = (⟨F1.f0, F1.f1, F1.f2, F1.f3, wrap64 (F1.f4 + wrap64 (wrap64 e4 * wrap64 p0))⟩ : Ap.H) := ⟨_, rfl⟩; obtain ⟨T2, hT2⟩ : ∃ y, y = (⟨T1.f0, T1.f1, T1.f2, T1.f3, wrap64 (T1.f4 - wrap64 (wrap64 e4 * wrap64 p0))⟩ : Ap.H) := ⟨_, rfl⟩; rw [← hF2, ← hT2] at hS10; rw [HF1.out] at hF2; rw [HT1.out] at hT2; clear n0 n1 n2 HF1 HT1 HgF HgT; have hgF : ((l1.set f F2).set t T2).getD f z71 = F2 := (by rw [Ap.other _ (Ne.symm hft)]; exact getD_set_self hf _ _); have hgT : ((l1.set f F2).set t T2).getD t z71 = T2 := getD_set_self (by rw [List.length_set]; exact ht) _ _; have HF1 := Lib.hid hF2; have HT1 := Lib.hid hT2; clear hF2 hT2; have HgF := Lib.hid hgF; have HgT := Lib.hid hgT; clear hgF hgT; have c0_hS10 := hS10.c0; have c1_hS10 := hS10.c1; have u1_hS10 := pw_cell_below hS10.b X1.out; have u2_hS10 := pw_cell_below hS10.b X2.out; have u3_hS10 := pw_cell_below hS10.b X3.out; have u4_hS10 := pw_cell_below hS10.b X4.out; obtain ⟨x0, x1, x2, x3, x4, fr_x⟩ := Ap.cells hS10.r (by simp only [List.length_set]; exact hf); rw [HgF.out] at x0 x1 x2 x3 x4; obtain ⟨y0, y1, y2, y3, y4, fr_y⟩ := Ap.cells hS10.r (by simp only [List.length_set]; exact ht); rw [HgT.out] at y0 y1 y2 y3 y4) | (go_at_call 73; fail))
  have hres : (if (hB F2 && hB T2) = true then (((l1.set f F2).set t T2), (0 : Int)) else ([], 3)) = (r1, r2) := by rw [HF1.out, HT1.out, HF.out, HT.out]; exact Hh.out
  clear Hh HF1 HgF HF HT1 HgT HT
  cases bF2 : hB F2
  · simp only [bF2, Bool.false_and, if_neg Bool.false_ne_true] at hres
    obtain ⟨rfl, rfl⟩ := Prod.mk.inj hres
    clear hres
    have BF2 := Lib.hid (show heldB F2.f0 F2.f1 F2.f2 F2.f3 F2.f4 = false from bF2)
    clear bF2
    go_wp2_with (fail "a call")
    refine (l06Held_at _ F2.f0 F2.f1 F2.f2 F2.f3 F2.f4 _ x0 x1 x2 x3 x4).mono ?_
    rw [BF2.out]
    rintro e w' ⟨rfl, rfl⟩
    go_wp2_with (((with_reducible refine gate_dst (N := 190) rfl ?_); refine Kd.R_lit k71 _ 71 ?hg (N := 190) ?hd (xs := ([] : List Ap.H)) (inner := []) (ok := fun _ => True) (okp := fun _ => True) ?hr ?hp (fun _ hk => hk) trivial (Below.refl _ _) (Nat.le_refl _) (by simp) ?_; (case hd => rfl); (case hg => rfl); (case hr => first | (go_simp; done) | (go_simp; rfl)); (case hp => exact (Reps.none _ _)); intro vl wl hol hbl hg_ hnew_; clear hg_ hnew_; have HOn := Aside0.mk hol; have HBn := Aside0.mk hbl; clear hol hbl))
    go_ret2
    exact ⟨_, rfl, Kd.R_lower HOn.out hS10.b.size, below_then hS10.b hS10.b.size HBn.out⟩
  · cases bT2 : hB T2
    · simp only [bF2, bT2, Bool.and_false, if_neg Bool.false_ne_true] at hres
      obtain ⟨rfl, rfl⟩ := Prod.mk.inj hres
      clear hres
      have BF2 := Lib.hid (show heldB F2.f0 F2.f1 F2.f2 F2.f3 F2.f4 = true from bF2)
      clear bF2
      have BT2 := Lib.hid (show heldB T2.f0 T2.f1 T2.f2 T2.f3 T2.f4 = false from bT2)
      clear bT2
      go_wp2_with (fail "a call")
      refine (l06Held_at _ F2.f0 F2.f1 F2.f2 F2.f3 F2.f4 _ x0 x1 x2 x3 x4).mono ?_
      rw [BF2.out]
      rintro e w' ⟨rfl, rfl⟩
      go_wp2_with (fail "a call")
      refine (l06Held_at _ T2.f0 T2.f1 T2.f2 T2.f3 T2.f4 _ y0 y1 y2 y3 y4).mono ?_
      rw [BT2.out]
      rintro e w' ⟨rfl, rfl⟩
      go_wp2_with (((with_reducible refine gate_dst (N := 190) rfl ?_); refine Kd.R_lit k71 _ 71 ?hg (N := 190) ?hd (xs := ([] : List Ap.H)) (inner := []) (ok := fun _ => True) (okp := fun _ => True) ?hr ?hp (fun _ hk => hk) trivial (Below.refl _ _) (Nat.le_refl _) (by simp) ?_; (case hd => rfl); (case hg => rfl); (case hr => first | (go_simp; done) | (go_simp; rfl)); (case hp => exact (Reps.none _ _)); intro vl wl hol hbl hg_ hnew_; clear hg_ hnew_; have HOn := Aside0.mk hol; have HBn := Aside0.mk hbl; clear hol hbl))
      go_ret2
      exact ⟨_, rfl, Kd.R_lower HOn.out hS10.b.size, below_then hS10.b hS10.b.size HBn.out⟩
    · simp only [bF2, bT2, Bool.and_true, if_true] at hres
      obtain ⟨rfl, rfl⟩ := Prod.mk.inj hres
      clear hres
      have BF2 := Lib.hid (show heldB F2.f0 F2.f1 F2.f2 F2.f3 F2.f4 = true from bF2)
      clear bF2
      have BT2 := Lib.hid (show heldB T2.f0 T2.f1 T2.f2 T2.f3 T2.f4 = true from bT2)
      clear bT2
      go_wp2_with (fail "a call")
      refine (l06Held_at _ F2.f0 F2.f1 F2.f2 F2.f3 F2.f4 _ x0 x1 x2 x3 x4).mono ?_
      rw [BF2.out]
      rintro e w' ⟨rfl, rfl⟩
      go_wp2_with (fail "a call")
      refine (l06Held_at _ T2.f0 T2.f1 T2.f2 T2.f3 T2.f4 _ y0 y1 y2 y3 y4).mono ?_
      rw [BT2.out]
      rintro e w' ⟨rfl, rfl⟩
      have hr_ := Kd.R_lower hS10.r (show w.heap.size ≤ w.heap.size + 1 by omega)
      simp only [List.length_set] at hr_
      go_wp2
      go_ret2
      exact ⟨_, rfl, hr_, hS10.b⟩
set_option maxHeartbeats 8000000 in
set_option maxRecDepth 100000 in
theorem s1 (A1 : Option Addr) (c1 : Nat) (l1 : List H) (p0 p1 e4 : Int) (a : Addr) (f t : Nat) (r1 : List H) (r2 : Int) (w : World) (hr : Kd.C k71 w A1 l1.length l1) (hc1 : l1.length ≤ c1) (hl : l1.length ≤ 6) (hf : f < l1.length) (ht : t < l1.length) (hft : f ≠ t)
    (x1 : w.cell? ⟨a.block, a.off + 1, none⟩ = some (.int .i8 (f : Int))) (x2 : w.cell? ⟨a.block, a.off + 2, none⟩ = some (.int .i8 (t : Int))) (x3 : w.cell? ⟨a.block, a.off + 3, none⟩ = some (.int .u8 1)) (x4 : w.cell? ⟨a.block, a.off + 4, none⟩ = some (.int .i16 e4))
    (hn : (decide ((Ap.take 1 (l1.getD f z71) (wrap64 e4)).f0 < 0) = true ∧ (([] : List H), (4 : Int)) = (r1, r2)) ∨ (decide ((Ap.take 1 (l1.getD f z71) (wrap64 e4)).f0 < 0) = false ∧ decide ((Ap.take 1 (l1.getD f z71) (wrap64 e4)).f1 < 0) = true ∧ (([] : List H), (4 : Int)) = (r1, r2)) ∨ (decide ((Ap.take 1 (l1.getD f z71) (wrap64 e4)).f0 < 0) = false ∧ decide ((Ap.take 1 (l1.getD f z71) (wrap64 e4)).f1 < 0) = false ∧ decide ((Ap.take 1 (l1.getD f z71) (wrap64 e4)).f2 < 0) = true ∧ (([] : List H), (4 : Int)) = (r1, r2)) ∨ (decide ((Ap.take 1 (l1.getD f z71) (wrap64 e4)).f0 < 0) = false ∧ decide ((Ap.take 1 (l1.getD f z71) (wrap64 e4)).f1 < 0) = false ∧ decide ((Ap.take 1 (l1.getD f z71) (wrap64 e4)).f2 < 0) = false ∧ Ap.moveA 1 l1 f t (wrap64 e4) (wrap64 p0) = (r1, r2))) :
    Calls Try.prog 40 #[.agg #[.int .i16 p0, .int .i16 p1], .slice A1 l1.length c1, .pointer (some a)] w fun e w' => ∃ v : Value, e = .returned (.tuple #[v, .int .i64 r2]) ∧ Kd.R k71 71 w' w.heap.size (fun _ => True) v r1 ∧ Below w.heap.size w w' := by
  have HR := Aside0.mk hr; have X1 := Lib.hid x1; have X2 := Lib.hid x2; have X3 := Lib.hid x3; have X4 := Lib.hid x4
  clear hr x1 x2 x3 x4
  obtain ⟨F, hF⟩ : ∃ F, F = l1.getD f z71 := ⟨_, rfl⟩
  have HF := Lib.hid hF
  clear hF
  obtain ⟨T, hT⟩ : ∃ T, T = l1.getD t z71 := ⟨_, rfl⟩
  have HT := Lib.hid hT
  clear hT
  have Hn := Lib.hid (fun (y : H) (hy : y = Ap.take 1 F (wrap64 e4)) => show (decide (y.f0 < 0) = true ∧ (([] : List H), (4 : Int)) = (r1, r2)) ∨ (decide (y.f0 < 0) = false ∧ decide (y.f1 < 0) = true ∧ (([] : List H), (4 : Int)) = (r1, r2)) ∨ (decide (y.f0 < 0) = false ∧ decide (y.f1 < 0) = false ∧ decide (y.f2 < 0) = true ∧ (([] : List H), (4 : Int)) = (r1, r2)) ∨ (decide (y.f0 < 0) = false ∧ decide (y.f1 < 0) = false ∧ decide (y.f2 < 0) = false ∧ Ap.moveA 1 l1 f t (wrap64 e4) (wrap64 p0) = (r1, r2)) by rw [hy, HF.out]; exact hn)
  clear hn
  have hf1 : decide ((f : Int) < (l1.length : Int)) = true := decide_eq_true (by omega)
  have hfz : decide (f < l1.length) = true := decide_eq_true hf
  have ht1 : decide ((t : Int) < (l1.length : Int)) = true := decide_eq_true (by omega)
  have htz : decide (t < l1.length) = true := decide_eq_true ht
  have hfe : ((f : Int) == (t : Int)) = false := by rw [beq_eq_false_iff_ne]; omega
  have hfq : ((f : Int) != (t : Int)) = true := by rw [bne_iff_ne]; omega
  go_enter Try.func40, Try.ntmps40
  have B0 : Aside0 (Below w.heap.size w (w.alloc (.cells #[.int .i16 p0, .int .i16 p1] 33))) := ⟨(Below.refl _ _).alloc (Nat.le_refl _) _⟩
  go_wp2_with (first | ((with_reducible refine gate_dst (N := 13) rfl ?_); refine Kd.R_lit k71 _ 71 ?hg (N := 13) ?hd (xs := ([] : List Ap.H)) (inner := []) (ok := fun _ => True) (okp := fun _ => True) ?hr ?hp (fun _ hk => hk) trivial (Below.refl _ _) (Nat.le_refl _) (by simp) ?_; (case hd => rfl); (case hg => rfl); (case hr => first | (go_simp; done) | (go_simp; rfl)); (case hp => exact (Reps.none _ _)); intro vl wl hol hbl hg_ hnew_; clear hg_ hnew_; have HOl := Aside0.mk hol; have HBl := Aside0.mk hbl; clear hol hbl) | ((with_reducible refine gate_builtin (b := .append) (xs := #[.tmp 13, .tmp 14]) rfl ?_); at_builtin; refine Kd.R_append_rows k71 (w0 := (w.alloc (.cells #[.int .i16 p0, .int .i16 p1] 33))) (w.alloc (.cells #[.int .i16 p0, .int .i16 p1] 33)).heap.size rfl (.tmp 13) (.tmp 14) 30 71 (.agg #[.int .i64 0, .int .i64 0, .int .i64 0, .int .i64 0, .int .i64 0]) 40 rfl Try.underlying30 info71 rfl (by decide) (by omega) vl ([] : List Ap.H) l1 _ _ _ (fun _ => True) (fun _ => False) rfl rfl ?aO ?aR (fun _ _ h => h) (fun _ h => h.elim) ?aF ?aB ?aS ?aL ?_; (case aR => exact Kd.C_below HR.out (below_then B0.out B0.out.size HBl.out)); (case aB => exact HBl.out); (case aF => exact fun _ _ => trivial); (case aO => exact HOl.out); (case aS => exact HBl.out.size); (case aL => simp only [List.length_nil, Nat.zero_add]; omega); intro v466 w5 ho hb2 hg hat; clear hg hat; have hR2 : Kd.R k71 71 w5 (w.heap.size + 1) (fun _ => True) v466 l1 := Kd.R_lower ho (show w.heap.size + 1 ≤ _ by simp); clear ho HOl HBl; obtain ⟨g, cap, rfl, -, -, -⟩ := Kd.R_form hR2 (show 0 < l1.length by omega); have hS5 : Ap.St2 w w5 g cap l1 p0 p1 := ⟨hR2, below_then B0.out B0.out.size hb2, hb2.cell (p := ⟨w.heap.size, 0, none⟩) (by simp) |>.trans (by simp), hb2.cell (p := ⟨w.heap.size, 1, none⟩) (by simp) |>.trans (by simp)⟩; clear hR2 hb2; have c0_hS5 := hS5.c0; have c1_hS5 := hS5.c1; have u1_hS5 := pw_cell_below hS5.b X1.out; have u2_hS5 := pw_cell_below hS5.b X2.out; have u3_hS5 := pw_cell_below hS5.b X3.out; have u4_hS5 := pw_cell_below hS5.b X4.out; obtain ⟨x0, x1, x2, x3, x4, fr_x⟩ := Ap.cells hS5.r (hf); rw [← HF.out] at x0 x1 x2 x3 x4; obtain ⟨y0, y1, y2, y3, y4, -⟩ := Ap.cells hS5.r ht; rw [← HT.out] at y0 y1 y2 y3 y4) | ((with_reducible refine gate_store (t := 2) (p := 67) rfl ?_); refine store_event (t := 2) (p := 67) (v := ?vo_w6) (w1 := (w5.setCell ⟨g, f * 5 + 1, none⟩ (.int .i64 (wrap64 (F.f1 - wrap64 e4))))) ?hg ?ho ?hn ?hr ?_; (case ho => rfl); (case hg => rfl); (case hn => rfl); (case hr => first | (go_simp; done) | (go_simp; rfl)); intro w6 hw_; have hS6 : Ap.St2 w w6 g cap (l1.set f (⟨F.f0, wrap64 (F.f1 - wrap64 e4), F.f2, F.f3, F.f4⟩ : Ap.H)) p0 p1 := (by rw [hw_]; exact hS5.at (Ap.put1 hS5.r hf _ HF.out.symm)); clear hw_; clear c0_hS5 c1_hS5 u1_hS5 u2_hS5 u3_hS5 u4_hS5; clear x0 x1 x2 x3 x4 fr_x; clear y0 y1 y2 y3 y4; clear hS5; have c0_hS6 := hS6.c0; have c1_hS6 := hS6.c1; have u1_hS6 := pw_cell_below hS6.b X1.out; have u2_hS6 := pw_cell_below hS6.b X2.out; have u3_hS6 := pw_cell_below hS6.b X3.out; have u4_hS6 := pw_cell_below hS6.b X4.out; obtain ⟨y0, y1, y2, y3, y4, fr_y⟩ := Ap.cells hS6.r (by rw [List.length_set]; exact ht); rw [Ap.other _ hft, ← HT.out] at y0 y1 y2 y3 y4) | ((with_reducible refine gate_store (t := 2) (p := 75) rfl ?_); refine store_event (t := 2) (p := 75) (v := ?vo_w7) (w1 := (w6.setCell ⟨g, t * 5 + 1, none⟩ (.int .i64 (wrap64 (T.f1 + wrap64 e4))))) ?hg ?ho ?hn ?hr ?_; (case ho => rfl); (case hg => rfl); (case hn => rfl); (case hr => first | (go_simp; done) | (go_simp; rfl)); intro w7 hw_; have hS7 : Ap.St2 w w7 g cap ((l1.set f (⟨F.f0, wrap64 (F.f1 - wrap64 e4), F.f2, F.f3, F.f4⟩ : Ap.H)).set t (⟨T.f0, wrap64 (T.f1 + wrap64 e4), T.f2, T.f3, T.f4⟩ : Ap.H)) p0 p1 := (by rw [hw_]; exact hS6.at (Ap.put1 hS6.r (by rw [List.length_set]; exact ht) _ (by rw [Ap.other _ hft]; exact HT.out.symm))); clear hw_; clear c0_hS6 c1_hS6 u1_hS6 u2_hS6 u3_hS6 u4_hS6; clear y0 y1 y2 y3 y4 fr_y; clear hS6; obtain ⟨F1, hF1⟩ : ∃ y, y = (⟨F.f0, wrap64 (F.f1 - wrap64 e4), F.f2, F.f3, F.f4⟩ : Ap.H) := ⟨_, rfl⟩; obtain ⟨T1, hT1⟩ : ∃ y, y = (⟨T.f0, wrap64 (T.f1 + wrap64 e4), T.f2, T.f3, T.f4⟩ : Ap.H) := ⟨_, rfl⟩; rw [← hF1, ← hT1] at hS7; have hgF : ((l1.set f F1).set t T1).getD f z71 = F1 := (by rw [Ap.other _ (Ne.symm hft)]; exact getD_set_self hf _ _); have hgT : ((l1.set f F1).set t T1).getD t z71 = T1 := getD_set_self (by rw [List.length_set]; exact ht) _ _; have HF1 := Lib.hid hF1; have HT1 := Lib.hid hT1; clear hF1 hT1; have HgF := Lib.hid hgF; have HgT := Lib.hid hgT; clear hgF hgT; have c0_hS7 := hS7.c0; have c1_hS7 := hS7.c1; have u1_hS7 := pw_cell_below hS7.b X1.out; have u2_hS7 := pw_cell_below hS7.b X2.out; have u3_hS7 := pw_cell_below hS7.b X3.out; have u4_hS7 := pw_cell_below hS7.b X4.out; obtain ⟨x0, x1, x2, x3, x4, fr_x⟩ := Ap.cells hS7.r (by simp only [List.length_set]; exact hf); rw [HgF.out] at x0 x1 x2 x3 x4; obtain ⟨y0, y1, y2, y3, y4, fr_y⟩ := Ap.cells hS7.r (by simp only [List.length_set]; exact ht); rw [HgT.out] at y0 y1 y2 y3 y4; have hn_ := Hn.out F1 HF1.out; clear Hn; rcases hn_ with ⟨n0, hh_⟩ | ⟨n0, n1, hh_⟩ | ⟨n0, n1, n2, hh_⟩ | ⟨n0, n1, n2, hh_⟩ <;> (have Hh := Lib.hid hh_; clear hh_)) | ((with_reducible refine gate_dst (N := 152) rfl ?_); refine Kd.R_lit k71 _ 71 ?hg (N := 152) ?hd (xs := ([] : List Ap.H)) (inner := []) (ok := fun _ => True) (okp := fun _ => True) ?hr ?hp (fun _ hk => hk) trivial (Below.refl _ _) (Nat.le_refl _) (by simp) ?_; (case hd => rfl); (case hg => rfl); (case hr => first | (go_simp; done) | (go_simp; rfl)); (case hp => exact (Reps.none _ _)); intro vl wl hol hbl hg_ hnew_; clear hg_ hnew_; have HOn := Aside0.mk hol; have HBn := Aside0.mk hbl; clear hol hbl))
  iterate 3
    · obtain ⟨rfl, rfl⟩ := Prod.mk.inj Hh.out
      go_ret2
      exact ⟨_, rfl, Kd.R_lower HOn.out hS7.b.size, below_then hS7.b hS7.b.size HBn.out⟩
  go_quiet (fail)
  clear c0_hS7 c1_hS7 u1_hS7 u2_hS7 u3_hS7 u4_hS7
  clear x0 x1 x2 x3 x4 fr_x
  clear y0 y1 y2 y3 y4 fr_y
  first
    | refine Ap.reletE (F := fun w' => Ap.St2 w w' g cap ((l1.set f F1).set t T1) p0 p1) (hS7.drewN _) ?_
    | refine Ap.reletI (F := fun w' => Ap.St2 w w' g cap ((l1.set f F1).set t T1) p0 p1) (hS7.drewN _) ?_
    | refine Ap.reletC (F := fun w' => Ap.St2 w w' g cap ((l1.set f F1).set t T1) p0 p1) (hS7.drewN _) ?_
  rintro w8 hS8
  clear hS7
  have c0_hS8 := hS8.c0; have c1_hS8 := hS8.c1
  have u1_hS8 := pw_cell_below hS8.b X1.out; have u2_hS8 := pw_cell_below hS8.b X2.out; have u3_hS8 := pw_cell_below hS8.b X3.out; have u4_hS8 := pw_cell_below hS8.b X4.out
  obtain ⟨x0, x1, x2, x3, x4, fr_x⟩ := Ap.cells hS8.r (by simp only [List.length_set]; exact hf)
  rw [HgF.out] at x0 x1 x2 x3 x4
  obtain ⟨y0, y1, y2, y3, y4, fr_y⟩ := Ap.cells hS8.r (by simp only [List.length_set]; exact ht)
  rw [HgT.out] at y0 y1 y2 y3 y4
  go_wp2_with (first | ((with_reducible refine gate_store (t := 2) (p := 171) rfl ?_); refine store_event (t := 2) (p := 171) (v := ?vo_w9) (w1 := (w8.setCell ⟨g, f * 5 + 4, none⟩ (.int .i64 (wrap64 (F1.f4 + wrap64 (wrap64 e4 * wrap64 p0)))))) ?hg ?ho ?hn ?hr ?_; (case ho => rfl); (case hg => rfl); (case hn => rfl); (case hr => first | (go_simp; done) | (go_simp; rfl)); intro w9 hw_; have hS9 : Ap.St2 w w9 g cap (((l1.set f F1).set t T1).set f (⟨F1.f0, F1.f1, F1.f2, F1.f3, wrap64 (F1.f4 + wrap64 (wrap64 e4 * wrap64 p0))⟩ : Ap.H)) p0 p1 := (by rw [hw_]; exact hS8.at (Ap.put4 hS8.r (by simp only [List.length_set]; exact hf) _ HgF.out)); clear hw_; clear c0_hS8 c1_hS8 u1_hS8 u2_hS8 u3_hS8 u4_hS8; clear x0 x1 x2 x3 x4 fr_x; clear y0 y1 y2 y3 y4 fr_y; clear hS8; have c0_hS9 := hS9.c0; have c1_hS9 := hS9.c1; have u1_hS9 := pw_cell_below hS9.b X1.out; have u2_hS9 := pw_cell_below hS9.b X2.out; have u3_hS9 := pw_cell_below hS9.b X3.out; have u4_hS9 := pw_cell_below hS9.b X4.out; obtain ⟨y0, y1, y2, y3, y4, fr_y⟩ := Ap.cells hS9.r (by simp only [List.length_set]; exact ht); rw [Ap.other _ hft, HgT.out] at y0 y1 y2 y3 y4) | ((with_reducible refine gate_store (t := 2) (p := 181) rfl ?_); refine store_event (t := 2) (p := 181) (v := ?vo_w10) (w1 := (w9.setCell ⟨g, t * 5 + 4, none⟩ (.int .i64 (wrap64 (T1.f4 - wrap64 (wrap64 e4 * wrap64 p0)))))) ?hg ?ho ?hn ?hr ?_; (case ho => rfl); (case hg => rfl); (case hn => rfl); (case hr => first | (go_simp; done) | (go_simp; rfl)); intro w10 hw_; have hS10 : Ap.St2 w w10 g cap ((((l1.set f F1).set t T1).set f (⟨F1.f0, F1.f1, F1.f2, F1.f3, wrap64 (F1.f4 + wrap64 (wrap64 e4 * wrap64 p0))⟩ : Ap.H)).set t (⟨T1.f0, T1.f1, T1.f2, T1.f3, wrap64 (T1.f4 - wrap64 (wrap64 e4 * wrap64 p0))⟩ : Ap.H)) p0 p1 := (by rw [hw_]; exact hS9.at (Ap.put4 hS9.r (by simp only [List.length_set]; exact ht) _ (by rw [Ap.other _ hft]; exact HgT.out))); clear hw_; clear c0_hS9 c1_hS9 u1_hS9 u2_hS9 u3_hS9 u4_hS9; clear y0 y1 y2 y3 y4 fr_y; clear hS9; have he : ((((l1.set f F1).set t T1).set f (⟨F1.f0, F1.f1, F1.f2, F1.f3, wrap64 (F1.f4 + wrap64 (wrap64 e4 * wrap64 p0))⟩ : Ap.H)).set t (⟨T1.f0, T1.f1, T1.f2, T1.f3, wrap64 (T1.f4 - wrap64 (wrap64 e4 * wrap64 p0))⟩ : Ap.H)) = (l1.set f (⟨F1.f0, F1.f1, F1.f2, F1.f3, wrap64 (F1.f4 + wrap64 (wrap64 e4 * wrap64 p0))⟩ : Ap.H)).set t (⟨T1.f0, T1.f1, T1.f2, T1.f3, wrap64 (T1.f4 - wrap64 (wrap64 e4 * wrap64 p0))⟩ : Ap.H) := Ap.both hft _ _ _ _; rw [he] at hS10; clear he; obtain ⟨F2, hF2⟩ : ∃ y, y = (⟨F1.f0, F1.f1, F1.f2, F1.f3, wrap64 (F1.f4 + wrap64 (wrap64 e4 * wrap64 p0))⟩ : Ap.H) := ⟨_, rfl⟩; obtain ⟨T2, hT2⟩ : ∃ y, y = (⟨T1.f0, T1.f1, T1.f2, T1.f3, wrap64 (T1.f4 - wrap64 (wrap64 e4 * wrap64 p0))⟩ : Ap.H) := ⟨_, rfl⟩; rw [← hF2, ← hT2] at hS10; rw [HF1.out] at hF2; rw [HT1.out] at hT2; clear n0 n1 n2 HF1 HT1 HgF HgT; have hgF : ((l1.set f F2).set t T2).getD f z71 = F2 := (by rw [Ap.other _ (Ne.symm hft)]; exact getD_set_self hf _ _); have hgT : ((l1.set f F2).set t T2).getD t z71 = T2 := getD_set_self (by rw [List.length_set]; exact ht) _ _; have HF1 := Lib.hid hF2; have HT1 := Lib.hid hT2; clear hF2 hT2; have HgF := Lib.hid hgF; have HgT := Lib.hid hgT; clear hgF hgT; have c0_hS10 := hS10.c0; have c1_hS10 := hS10.c1; have u1_hS10 := pw_cell_below hS10.b X1.out; have u2_hS10 := pw_cell_below hS10.b X2.out; have u3_hS10 := pw_cell_below hS10.b X3.out; have u4_hS10 := pw_cell_below hS10.b X4.out; obtain ⟨x0, x1, x2, x3, x4, fr_x⟩ := Ap.cells hS10.r (by simp only [List.length_set]; exact hf); rw [HgF.out] at x0 x1 x2 x3 x4; obtain ⟨y0, y1, y2, y3, y4, fr_y⟩ := Ap.cells hS10.r (by simp only [List.length_set]; exact ht); rw [HgT.out] at y0 y1 y2 y3 y4) | (go_at_call 73; fail))
  have hres : (if (hB F2 && hB T2) = true then (((l1.set f F2).set t T2), (0 : Int)) else ([], 3)) = (r1, r2) := by rw [HF1.out, HT1.out, HF.out, HT.out]; exact Hh.out
  clear Hh HF1 HgF HF HT1 HgT HT
  cases bF2 : hB F2
  · simp only [bF2, Bool.false_and, if_neg Bool.false_ne_true] at hres
    obtain ⟨rfl, rfl⟩ := Prod.mk.inj hres
    clear hres
    have BF2 := Lib.hid (show heldB F2.f0 F2.f1 F2.f2 F2.f3 F2.f4 = false from bF2)
    clear bF2
    go_wp2_with (fail "a call")
    refine (l06Held_at _ F2.f0 F2.f1 F2.f2 F2.f3 F2.f4 _ x0 x1 x2 x3 x4).mono ?_
    rw [BF2.out]
    rintro e w' ⟨rfl, rfl⟩
    go_wp2_with (((with_reducible refine gate_dst (N := 190) rfl ?_); refine Kd.R_lit k71 _ 71 ?hg (N := 190) ?hd (xs := ([] : List Ap.H)) (inner := []) (ok := fun _ => True) (okp := fun _ => True) ?hr ?hp (fun _ hk => hk) trivial (Below.refl _ _) (Nat.le_refl _) (by simp) ?_; (case hd => rfl); (case hg => rfl); (case hr => first | (go_simp; done) | (go_simp; rfl)); (case hp => exact (Reps.none _ _)); intro vl wl hol hbl hg_ hnew_; clear hg_ hnew_; have HOn := Aside0.mk hol; have HBn := Aside0.mk hbl; clear hol hbl))
    go_ret2
    exact ⟨_, rfl, Kd.R_lower HOn.out hS10.b.size, below_then hS10.b hS10.b.size HBn.out⟩
  · cases bT2 : hB T2
    · simp only [bF2, bT2, Bool.and_false, if_neg Bool.false_ne_true] at hres
      obtain ⟨rfl, rfl⟩ := Prod.mk.inj hres
      clear hres
      have BF2 := Lib.hid (show heldB F2.f0 F2.f1 F2.f2 F2.f3 F2.f4 = true from bF2)
      clear bF2
      have BT2 := Lib.hid (show heldB T2.f0 T2.f1 T2.f2 T2.f3 T2.f4 = false from bT2)
      clear bT2
      go_wp2_with (fail "a call")
      refine (l06Held_at _ F2.f0 F2.f1 F2.f2 F2.f3 F2.f4 _ x0 x1 x2 x3 x4).mono ?_
      rw [BF2.out]
      rintro e w' ⟨rfl, rfl⟩
      go_wp2_with (fail "a call")
      refine (l06Held_at _ T2.f0 T2.f1 T2.f2 T2.f3 T2.f4 _ y0 y1 y2 y3 y4).mono ?_
      rw [BT2.out]
      rintro e w' ⟨rfl, rfl⟩
      go_wp2_with (((with_reducible refine gate_dst (N := 190) rfl ?_); refine Kd.R_lit k71 _ 71 ?hg (N := 190) ?hd (xs := ([] : List Ap.H)) (inner := []) (ok := fun _ => True) (okp := fun _ => True) ?hr ?hp (fun _ hk => hk) trivial (Below.refl _ _) (Nat.le_refl _) (by simp) ?_; (case hd => rfl); (case hg => rfl); (case hr => first | (go_simp; done) | (go_simp; rfl)); (case hp => exact (Reps.none _ _)); intro vl wl hol hbl hg_ hnew_; clear hg_ hnew_; have HOn := Aside0.mk hol; have HBn := Aside0.mk hbl; clear hol hbl))
      go_ret2
      exact ⟨_, rfl, Kd.R_lower HOn.out hS10.b.size, below_then hS10.b hS10.b.size HBn.out⟩
    · simp only [bF2, bT2, Bool.and_true, if_true] at hres
      obtain ⟨rfl, rfl⟩ := Prod.mk.inj hres
      clear hres
      have BF2 := Lib.hid (show heldB F2.f0 F2.f1 F2.f2 F2.f3 F2.f4 = true from bF2)
      clear bF2
      have BT2 := Lib.hid (show heldB T2.f0 T2.f1 T2.f2 T2.f3 T2.f4 = true from bT2)
      clear bT2
      go_wp2_with (fail "a call")
      refine (l06Held_at _ F2.f0 F2.f1 F2.f2 F2.f3 F2.f4 _ x0 x1 x2 x3 x4).mono ?_
      rw [BF2.out]
      rintro e w' ⟨rfl, rfl⟩
      go_wp2_with (fail "a call")
      refine (l06Held_at _ T2.f0 T2.f1 T2.f2 T2.f3 T2.f4 _ y0 y1 y2 y3 y4).mono ?_
      rw [BT2.out]
      rintro e w' ⟨rfl, rfl⟩
      have hr_ := Kd.R_lower hS10.r (show w.heap.size ≤ w.heap.size + 1 by omega)
      simp only [List.length_set] at hr_
      go_wp2
      go_ret2
      exact ⟨_, rfl, hr_, hS10.b⟩
set_option maxHeartbeats 8000000 in
set_option maxRecDepth 100000 in
theorem s2 (A1 : Option Addr) (c1 : Nat) (l1 : List H) (p0 p1 e4 : Int) (a : Addr) (f t : Nat) (r1 : List H) (r2 : Int) (w : World) (hr : Kd.C k71 w A1 l1.length l1) (hc1 : l1.length ≤ c1) (hl : l1.length ≤ 6) (hf : f < l1.length) (ht : t < l1.length) (hft : f ≠ t)
    (x1 : w.cell? ⟨a.block, a.off + 1, none⟩ = some (.int .i8 (f : Int))) (x2 : w.cell? ⟨a.block, a.off + 2, none⟩ = some (.int .i8 (t : Int))) (x3 : w.cell? ⟨a.block, a.off + 3, none⟩ = some (.int .u8 2)) (x4 : w.cell? ⟨a.block, a.off + 4, none⟩ = some (.int .i16 e4))
    (hn : (decide ((Ap.take 2 (l1.getD f z71) (wrap64 e4)).f0 < 0) = true ∧ (([] : List H), (4 : Int)) = (r1, r2)) ∨ (decide ((Ap.take 2 (l1.getD f z71) (wrap64 e4)).f0 < 0) = false ∧ decide ((Ap.take 2 (l1.getD f z71) (wrap64 e4)).f1 < 0) = true ∧ (([] : List H), (4 : Int)) = (r1, r2)) ∨ (decide ((Ap.take 2 (l1.getD f z71) (wrap64 e4)).f0 < 0) = false ∧ decide ((Ap.take 2 (l1.getD f z71) (wrap64 e4)).f1 < 0) = false ∧ decide ((Ap.take 2 (l1.getD f z71) (wrap64 e4)).f2 < 0) = true ∧ (([] : List H), (4 : Int)) = (r1, r2)) ∨ (decide ((Ap.take 2 (l1.getD f z71) (wrap64 e4)).f0 < 0) = false ∧ decide ((Ap.take 2 (l1.getD f z71) (wrap64 e4)).f1 < 0) = false ∧ decide ((Ap.take 2 (l1.getD f z71) (wrap64 e4)).f2 < 0) = false ∧ Ap.moveA 2 l1 f t (wrap64 e4) (wrap64 p1) = (r1, r2))) :
    Calls Try.prog 40 #[.agg #[.int .i16 p0, .int .i16 p1], .slice A1 l1.length c1, .pointer (some a)] w fun e w' => ∃ v : Value, e = .returned (.tuple #[v, .int .i64 r2]) ∧ Kd.R k71 71 w' w.heap.size (fun _ => True) v r1 ∧ Below w.heap.size w w' := by
  have HR := Aside0.mk hr; have X1 := Lib.hid x1; have X2 := Lib.hid x2; have X3 := Lib.hid x3; have X4 := Lib.hid x4
  clear hr x1 x2 x3 x4
  obtain ⟨F, hF⟩ : ∃ F, F = l1.getD f z71 := ⟨_, rfl⟩
  have HF := Lib.hid hF
  clear hF
  obtain ⟨T, hT⟩ : ∃ T, T = l1.getD t z71 := ⟨_, rfl⟩
  have HT := Lib.hid hT
  clear hT
  have Hn := Lib.hid (fun (y : H) (hy : y = Ap.take 2 F (wrap64 e4)) => show (decide (y.f0 < 0) = true ∧ (([] : List H), (4 : Int)) = (r1, r2)) ∨ (decide (y.f0 < 0) = false ∧ decide (y.f1 < 0) = true ∧ (([] : List H), (4 : Int)) = (r1, r2)) ∨ (decide (y.f0 < 0) = false ∧ decide (y.f1 < 0) = false ∧ decide (y.f2 < 0) = true ∧ (([] : List H), (4 : Int)) = (r1, r2)) ∨ (decide (y.f0 < 0) = false ∧ decide (y.f1 < 0) = false ∧ decide (y.f2 < 0) = false ∧ Ap.moveA 2 l1 f t (wrap64 e4) (wrap64 p1) = (r1, r2)) by rw [hy, HF.out]; exact hn)
  clear hn
  have hf1 : decide ((f : Int) < (l1.length : Int)) = true := decide_eq_true (by omega)
  have hfz : decide (f < l1.length) = true := decide_eq_true hf
  have ht1 : decide ((t : Int) < (l1.length : Int)) = true := decide_eq_true (by omega)
  have htz : decide (t < l1.length) = true := decide_eq_true ht
  have hfe : ((f : Int) == (t : Int)) = false := by rw [beq_eq_false_iff_ne]; omega
  have hfq : ((f : Int) != (t : Int)) = true := by rw [bne_iff_ne]; omega
  go_enter Try.func40, Try.ntmps40
  have B0 : Aside0 (Below w.heap.size w (w.alloc (.cells #[.int .i16 p0, .int .i16 p1] 33))) := ⟨(Below.refl _ _).alloc (Nat.le_refl _) _⟩
  go_wp2_with (first | ((with_reducible refine gate_dst (N := 13) rfl ?_); refine Kd.R_lit k71 _ 71 ?hg (N := 13) ?hd (xs := ([] : List Ap.H)) (inner := []) (ok := fun _ => True) (okp := fun _ => True) ?hr ?hp (fun _ hk => hk) trivial (Below.refl _ _) (Nat.le_refl _) (by simp) ?_; (case hd => rfl); (case hg => rfl); (case hr => first | (go_simp; done) | (go_simp; rfl)); (case hp => exact (Reps.none _ _)); intro vl wl hol hbl hg_ hnew_; clear hg_ hnew_; have HOl := Aside0.mk hol; have HBl := Aside0.mk hbl; clear hol hbl) | ((with_reducible refine gate_builtin (b := .append) (xs := #[.tmp 13, .tmp 14]) rfl ?_); at_builtin; refine Kd.R_append_rows k71 (w0 := (w.alloc (.cells #[.int .i16 p0, .int .i16 p1] 33))) (w.alloc (.cells #[.int .i16 p0, .int .i16 p1] 33)).heap.size rfl (.tmp 13) (.tmp 14) 30 71 (.agg #[.int .i64 0, .int .i64 0, .int .i64 0, .int .i64 0, .int .i64 0]) 40 rfl Try.underlying30 info71 rfl (by decide) (by omega) vl ([] : List Ap.H) l1 _ _ _ (fun _ => True) (fun _ => False) rfl rfl ?aO ?aR (fun _ _ h => h) (fun _ h => h.elim) ?aF ?aB ?aS ?aL ?_; (case aR => exact Kd.C_below HR.out (below_then B0.out B0.out.size HBl.out)); (case aB => exact HBl.out); (case aF => exact fun _ _ => trivial); (case aO => exact HOl.out); (case aS => exact HBl.out.size); (case aL => simp only [List.length_nil, Nat.zero_add]; omega); intro v466 w5 ho hb2 hg hat; clear hg hat; have hR2 : Kd.R k71 71 w5 (w.heap.size + 1) (fun _ => True) v466 l1 := Kd.R_lower ho (show w.heap.size + 1 ≤ _ by simp); clear ho HOl HBl; obtain ⟨g, cap, rfl, -, -, -⟩ := Kd.R_form hR2 (show 0 < l1.length by omega); have hS5 : Ap.St2 w w5 g cap l1 p0 p1 := ⟨hR2, below_then B0.out B0.out.size hb2, hb2.cell (p := ⟨w.heap.size, 0, none⟩) (by simp) |>.trans (by simp), hb2.cell (p := ⟨w.heap.size, 1, none⟩) (by simp) |>.trans (by simp)⟩; clear hR2 hb2; have c0_hS5 := hS5.c0; have c1_hS5 := hS5.c1; have u1_hS5 := pw_cell_below hS5.b X1.out; have u2_hS5 := pw_cell_below hS5.b X2.out; have u3_hS5 := pw_cell_below hS5.b X3.out; have u4_hS5 := pw_cell_below hS5.b X4.out; obtain ⟨x0, x1, x2, x3, x4, fr_x⟩ := Ap.cells hS5.r (hf); rw [← HF.out] at x0 x1 x2 x3 x4; obtain ⟨y0, y1, y2, y3, y4, -⟩ := Ap.cells hS5.r ht; rw [← HT.out] at y0 y1 y2 y3 y4) | ((with_reducible refine gate_store (t := 2) (p := 85) rfl ?_); refine store_event (t := 2) (p := 85) (v := ?vo_w6) (w1 := (w5.setCell ⟨g, f * 5 + 2, none⟩ (.int .i64 (wrap64 (F.f2 - wrap64 e4))))) ?hg ?ho ?hn ?hr ?_; (case ho => rfl); (case hg => rfl); (case hn => rfl); (case hr => first | (go_simp; done) | (go_simp; rfl)); intro w6 hw_; have hS6 : Ap.St2 w w6 g cap (l1.set f (⟨F.f0, F.f1, wrap64 (F.f2 - wrap64 e4), F.f3, F.f4⟩ : Ap.H)) p0 p1 := (by rw [hw_]; exact hS5.at (Ap.put2 hS5.r hf _ HF.out.symm)); clear hw_; clear c0_hS5 c1_hS5 u1_hS5 u2_hS5 u3_hS5 u4_hS5; clear x0 x1 x2 x3 x4 fr_x; clear y0 y1 y2 y3 y4; clear hS5; have c0_hS6 := hS6.c0; have c1_hS6 := hS6.c1; have u1_hS6 := pw_cell_below hS6.b X1.out; have u2_hS6 := pw_cell_below hS6.b X2.out; have u3_hS6 := pw_cell_below hS6.b X3.out; have u4_hS6 := pw_cell_below hS6.b X4.out; obtain ⟨y0, y1, y2, y3, y4, fr_y⟩ := Ap.cells hS6.r (by rw [List.length_set]; exact ht); rw [Ap.other _ hft, ← HT.out] at y0 y1 y2 y3 y4) | ((with_reducible refine gate_store (t := 2) (p := 93) rfl ?_); refine store_event (t := 2) (p := 93) (v := ?vo_w7) (w1 := (w6.setCell ⟨g, t * 5 + 2, none⟩ (.int .i64 (wrap64 (T.f2 + wrap64 e4))))) ?hg ?ho ?hn ?hr ?_; (case ho => rfl); (case hg => rfl); (case hn => rfl); (case hr => first | (go_simp; done) | (go_simp; rfl)); intro w7 hw_; have hS7 : Ap.St2 w w7 g cap ((l1.set f (⟨F.f0, F.f1, wrap64 (F.f2 - wrap64 e4), F.f3, F.f4⟩ : Ap.H)).set t (⟨T.f0, T.f1, wrap64 (T.f2 + wrap64 e4), T.f3, T.f4⟩ : Ap.H)) p0 p1 := (by rw [hw_]; exact hS6.at (Ap.put2 hS6.r (by rw [List.length_set]; exact ht) _ (by rw [Ap.other _ hft]; exact HT.out.symm))); clear hw_; clear c0_hS6 c1_hS6 u1_hS6 u2_hS6 u3_hS6 u4_hS6; clear y0 y1 y2 y3 y4 fr_y; clear hS6; obtain ⟨F1, hF1⟩ : ∃ y, y = (⟨F.f0, F.f1, wrap64 (F.f2 - wrap64 e4), F.f3, F.f4⟩ : Ap.H) := ⟨_, rfl⟩; obtain ⟨T1, hT1⟩ : ∃ y, y = (⟨T.f0, T.f1, wrap64 (T.f2 + wrap64 e4), T.f3, T.f4⟩ : Ap.H) := ⟨_, rfl⟩; rw [← hF1, ← hT1] at hS7; have hgF : ((l1.set f F1).set t T1).getD f z71 = F1 := (by rw [Ap.other _ (Ne.symm hft)]; exact getD_set_self hf _ _); have hgT : ((l1.set f F1).set t T1).getD t z71 = T1 := getD_set_self (by rw [List.length_set]; exact ht) _ _; have HF1 := Lib.hid hF1; have HT1 := Lib.hid hT1; clear hF1 hT1; have HgF := Lib.hid hgF; have HgT := Lib.hid hgT; clear hgF hgT; have c0_hS7 := hS7.c0; have c1_hS7 := hS7.c1; have u1_hS7 := pw_cell_below hS7.b X1.out; have u2_hS7 := pw_cell_below hS7.b X2.out; have u3_hS7 := pw_cell_below hS7.b X3.out; have u4_hS7 := pw_cell_below hS7.b X4.out; obtain ⟨x0, x1, x2, x3, x4, fr_x⟩ := Ap.cells hS7.r (by simp only [List.length_set]; exact hf); rw [HgF.out] at x0 x1 x2 x3 x4; obtain ⟨y0, y1, y2, y3, y4, fr_y⟩ := Ap.cells hS7.r (by simp only [List.length_set]; exact ht); rw [HgT.out] at y0 y1 y2 y3 y4; have hn_ := Hn.out F1 HF1.out; clear Hn; rcases hn_ with ⟨n0, hh_⟩ | ⟨n0, n1, hh_⟩ | ⟨n0, n1, n2, hh_⟩ | ⟨n0, n1, n2, hh_⟩ <;> (have Hh := Lib.hid hh_; clear hh_)) | ((with_reducible refine gate_dst (N := 152) rfl ?_); refine Kd.R_lit k71 _ 71 ?hg (N := 152) ?hd (xs := ([] : List Ap.H)) (inner := []) (ok := fun _ => True) (okp := fun _ => True) ?hr ?hp (fun _ hk => hk) trivial (Below.refl _ _) (Nat.le_refl _) (by simp) ?_; (case hd => rfl); (case hg => rfl); (case hr => first | (go_simp; done) | (go_simp; rfl)); (case hp => exact (Reps.none _ _)); intro vl wl hol hbl hg_ hnew_; clear hg_ hnew_; have HOn := Aside0.mk hol; have HBn := Aside0.mk hbl; clear hol hbl))
  iterate 3
    · obtain ⟨rfl, rfl⟩ := Prod.mk.inj Hh.out
      go_ret2
      exact ⟨_, rfl, Kd.R_lower HOn.out hS7.b.size, below_then hS7.b hS7.b.size HBn.out⟩
  go_quiet (fail)
  clear c0_hS7 c1_hS7 u1_hS7 u2_hS7 u3_hS7 u4_hS7
  clear x0 x1 x2 x3 x4 fr_x
  clear y0 y1 y2 y3 y4 fr_y
  first
    | refine Ap.reletE (F := fun w' => Ap.St2 w w' g cap ((l1.set f F1).set t T1) p0 p1) (hS7.drewN _) ?_
    | refine Ap.reletI (F := fun w' => Ap.St2 w w' g cap ((l1.set f F1).set t T1) p0 p1) (hS7.drewN _) ?_
    | refine Ap.reletC (F := fun w' => Ap.St2 w w' g cap ((l1.set f F1).set t T1) p0 p1) (hS7.drewN _) ?_
  rintro w8 hS8
  clear hS7
  have c0_hS8 := hS8.c0; have c1_hS8 := hS8.c1
  have u1_hS8 := pw_cell_below hS8.b X1.out; have u2_hS8 := pw_cell_below hS8.b X2.out; have u3_hS8 := pw_cell_below hS8.b X3.out; have u4_hS8 := pw_cell_below hS8.b X4.out
  obtain ⟨x0, x1, x2, x3, x4, fr_x⟩ := Ap.cells hS8.r (by simp only [List.length_set]; exact hf)
  rw [HgF.out] at x0 x1 x2 x3 x4
  obtain ⟨y0, y1, y2, y3, y4, fr_y⟩ := Ap.cells hS8.r (by simp only [List.length_set]; exact ht)
  rw [HgT.out] at y0 y1 y2 y3 y4
  go_wp2_with (first | ((with_reducible refine gate_store (t := 2) (p := 171) rfl ?_); refine store_event (t := 2) (p := 171) (v := ?vo_w9) (w1 := (w8.setCell ⟨g, f * 5 + 4, none⟩ (.int .i64 (wrap64 (F1.f4 + wrap64 (wrap64 e4 * wrap64 p1)))))) ?hg ?ho ?hn ?hr ?_; (case ho => rfl); (case hg => rfl); (case hn => rfl); (case hr => first | (go_simp; done) | (go_simp; rfl)); intro w9 hw_; have hS9 : Ap.St2 w w9 g cap (((l1.set f F1).set t T1).set f (⟨F1.f0, F1.f1, F1.f2, F1.f3, wrap64 (F1.f4 + wrap64 (wrap64 e4 * wrap64 p1))⟩ : Ap.H)) p0 p1 := (by rw [hw_]; exact hS8.at (Ap.put4 hS8.r (by simp only [List.length_set]; exact hf) _ HgF.out)); clear hw_; clear c0_hS8 c1_hS8 u1_hS8 u2_hS8 u3_hS8 u4_hS8; clear x0 x1 x2 x3 x4 fr_x; clear y0 y1 y2 y3 y4 fr_y; clear hS8; have c0_hS9 := hS9.c0; have c1_hS9 := hS9.c1; have u1_hS9 := pw_cell_below hS9.b X1.out; have u2_hS9 := pw_cell_below hS9.b X2.out; have u3_hS9 := pw_cell_below hS9.b X3.out; have u4_hS9 := pw_cell_below hS9.b X4.out; obtain ⟨y0, y1, y2, y3, y4, fr_y⟩ := Ap.cells hS9.r (by simp only [List.length_set]; exact ht); rw [Ap.other _ hft, HgT.out] at y0 y1 y2 y3 y4) | ((with_reducible refine gate_store (t := 2) (p := 181) rfl ?_); refine store_event (t := 2) (p := 181) (v := ?vo_w10) (w1 := (w9.setCell ⟨g, t * 5 + 4, none⟩ (.int .i64 (wrap64 (T1.f4 - wrap64 (wrap64 e4 * wrap64 p1)))))) ?hg ?ho ?hn ?hr ?_; (case ho => rfl); (case hg => rfl); (case hn => rfl); (case hr => first | (go_simp; done) | (go_simp; rfl)); intro w10 hw_; have hS10 : Ap.St2 w w10 g cap ((((l1.set f F1).set t T1).set f (⟨F1.f0, F1.f1, F1.f2, F1.f3, wrap64 (F1.f4 + wrap64 (wrap64 e4 * wrap64 p1))⟩ : Ap.H)).set t (⟨T1.f0, T1.f1, T1.f2, T1.f3, wrap64 (T1.f4 - wrap64 (wrap64 e4 * wrap64 p1))⟩ : Ap.H)) p0 p1 := (by rw [hw_]; exact hS9.at (Ap.put4 hS9.r (by simp only [List.length_set]; exact ht) _ (by rw [Ap.other _ hft]; exact HgT.out))); clear hw_; clear c0_hS9 c1_hS9 u1_hS9 u2_hS9 u3_hS9 u4_hS9; clear y0 y1 y2 y3 y4 fr_y; clear hS9; have he : ((((l1.set f F1).set t T1).set f (⟨F1.f0, F1.f1, F1.f2, F1.f3, wrap64 (F1.f4 + wrap64 (wrap64 e4 * wrap64 p1))⟩ : Ap.H)).set t (⟨T1.f0, T1.f1, T1.f2, T1.f3, wrap64 (T1.f4 - wrap64 (wrap64 e4 * wrap64 p1))⟩ : Ap.H)) = (l1.set f (⟨F1.f0, F1.f1, F1.f2, F1.f3, wrap64 (F1.f4 + wrap64 (wrap64 e4 * wrap64 p1))⟩ : Ap.H)).set t (⟨T1.f0, T1.f1, T1.f2, T1.f3, wrap64 (T1.f4 - wrap64 (wrap64 e4 * wrap64 p1))⟩ : Ap.H) := Ap.both hft _ _ _ _; rw [he] at hS10; clear he; obtain ⟨F2, hF2⟩ : ∃ y, y = (⟨F1.f0, F1.f1, F1.f2, F1.f3, wrap64 (F1.f4 + wrap64 (wrap64 e4 * wrap64 p1))⟩ : Ap.H) := ⟨_, rfl⟩; obtain ⟨T2, hT2⟩ : ∃ y, y = (⟨T1.f0, T1.f1, T1.f2, T1.f3, wrap64 (T1.f4 - wrap64 (wrap64 e4 * wrap64 p1))⟩ : Ap.H) := ⟨_, rfl⟩; rw [← hF2, ← hT2] at hS10; rw [HF1.out] at hF2; rw [HT1.out] at hT2; clear n0 n1 n2 HF1 HT1 HgF HgT; have hgF : ((l1.set f F2).set t T2).getD f z71 = F2 := (by rw [Ap.other _ (Ne.symm hft)]; exact getD_set_self hf _ _); have hgT : ((l1.set f F2).set t T2).getD t z71 = T2 := getD_set_self (by rw [List.length_set]; exact ht) _ _; have HF1 := Lib.hid hF2; have HT1 := Lib.hid hT2; clear hF2 hT2; have HgF := Lib.hid hgF; have HgT := Lib.hid hgT; clear hgF hgT; have c0_hS10 := hS10.c0; have c1_hS10 := hS10.c1; have u1_hS10 := pw_cell_below hS10.b X1.out; have u2_hS10 := pw_cell_below hS10.b X2.out; have u3_hS10 := pw_cell_below hS10.b X3.out; have u4_hS10 := pw_cell_below hS10.b X4.out; obtain ⟨x0, x1, x2, x3, x4, fr_x⟩ := Ap.cells hS10.r (by simp only [List.length_set]; exact hf); rw [HgF.out] at x0 x1 x2 x3 x4; obtain ⟨y0, y1, y2, y3, y4, fr_y⟩ := Ap.cells hS10.r (by simp only [List.length_set]; exact ht); rw [HgT.out] at y0 y1 y2 y3 y4) | (go_at_call 73; fail))
  have hres : (if (hB F2 && hB T2) = true then (((l1.set f F2).set t T2), (0 : Int)) else ([], 3)) = (r1, r2) := by rw [HF1.out, HT1.out, HF.out, HT.out]; exact Hh.out
  clear Hh HF1 HgF HF HT1 HgT HT
  cases bF2 : hB F2
  · simp only [bF2, Bool.false_and, if_neg Bool.false_ne_true] at hres
    obtain ⟨rfl, rfl⟩ := Prod.mk.inj hres
    clear hres
    have BF2 := Lib.hid (show heldB F2.f0 F2.f1 F2.f2 F2.f3 F2.f4 = false from bF2)
    clear bF2
    go_wp2_with (fail "a call")
    refine (l06Held_at _ F2.f0 F2.f1 F2.f2 F2.f3 F2.f4 _ x0 x1 x2 x3 x4).mono ?_
    rw [BF2.out]
    rintro e w' ⟨rfl, rfl⟩
    go_wp2_with (((with_reducible refine gate_dst (N := 190) rfl ?_); refine Kd.R_lit k71 _ 71 ?hg (N := 190) ?hd (xs := ([] : List Ap.H)) (inner := []) (ok := fun _ => True) (okp := fun _ => True) ?hr ?hp (fun _ hk => hk) trivial (Below.refl _ _) (Nat.le_refl _) (by simp) ?_; (case hd => rfl); (case hg => rfl); (case hr => first | (go_simp; done) | (go_simp; rfl)); (case hp => exact (Reps.none _ _)); intro vl wl hol hbl hg_ hnew_; clear hg_ hnew_; have HOn := Aside0.mk hol; have HBn := Aside0.mk hbl; clear hol hbl))
    go_ret2
    exact ⟨_, rfl, Kd.R_lower HOn.out hS10.b.size, below_then hS10.b hS10.b.size HBn.out⟩
  · cases bT2 : hB T2
    · simp only [bF2, bT2, Bool.and_false, if_neg Bool.false_ne_true] at hres
      obtain ⟨rfl, rfl⟩ := Prod.mk.inj hres
      clear hres
      have BF2 := Lib.hid (show heldB F2.f0 F2.f1 F2.f2 F2.f3 F2.f4 = true from bF2)
      clear bF2
      have BT2 := Lib.hid (show heldB T2.f0 T2.f1 T2.f2 T2.f3 T2.f4 = false from bT2)
      clear bT2
      go_wp2_with (fail "a call")
      refine (l06Held_at _ F2.f0 F2.f1 F2.f2 F2.f3 F2.f4 _ x0 x1 x2 x3 x4).mono ?_
      rw [BF2.out]
      rintro e w' ⟨rfl, rfl⟩
      go_wp2_with (fail "a call")
      refine (l06Held_at _ T2.f0 T2.f1 T2.f2 T2.f3 T2.f4 _ y0 y1 y2 y3 y4).mono ?_
      rw [BT2.out]
      rintro e w' ⟨rfl, rfl⟩
      go_wp2_with (((with_reducible refine gate_dst (N := 190) rfl ?_); refine Kd.R_lit k71 _ 71 ?hg (N := 190) ?hd (xs := ([] : List Ap.H)) (inner := []) (ok := fun _ => True) (okp := fun _ => True) ?hr ?hp (fun _ hk => hk) trivial (Below.refl _ _) (Nat.le_refl _) (by simp) ?_; (case hd => rfl); (case hg => rfl); (case hr => first | (go_simp; done) | (go_simp; rfl)); (case hp => exact (Reps.none _ _)); intro vl wl hol hbl hg_ hnew_; clear hg_ hnew_; have HOn := Aside0.mk hol; have HBn := Aside0.mk hbl; clear hol hbl))
      go_ret2
      exact ⟨_, rfl, Kd.R_lower HOn.out hS10.b.size, below_then hS10.b hS10.b.size HBn.out⟩
    · simp only [bF2, bT2, Bool.and_true, if_true] at hres
      obtain ⟨rfl, rfl⟩ := Prod.mk.inj hres
      clear hres
      have BF2 := Lib.hid (show heldB F2.f0 F2.f1 F2.f2 F2.f3 F2.f4 = true from bF2)
      clear bF2
      have BT2 := Lib.hid (show heldB T2.f0 T2.f1 T2.f2 T2.f3 T2.f4 = true from bT2)
      clear bT2
      go_wp2_with (fail "a call")
      refine (l06Held_at _ F2.f0 F2.f1 F2.f2 F2.f3 F2.f4 _ x0 x1 x2 x3 x4).mono ?_
      rw [BF2.out]
      rintro e w' ⟨rfl, rfl⟩
      go_wp2_with (fail "a call")
      refine (l06Held_at _ T2.f0 T2.f1 T2.f2 T2.f3 T2.f4 _ y0 y1 y2 y3 y4).mono ?_
      rw [BT2.out]
      rintro e w' ⟨rfl, rfl⟩
      have hr_ := Kd.R_lower hS10.r (show w.heap.size ≤ w.heap.size + 1 by omega)
      simp only [List.length_set] at hr_
      go_wp2
      go_ret2
      exact ⟨_, rfl, hr_, hS10.b⟩
set_option maxHeartbeats 8000000 in
set_option maxRecDepth 100000 in
theorem s3 (A1 : Option Addr) (c1 : Nat) (l1 : List H) (p0 p1 e4 : Int) (a : Addr) (f : Nat) (r1 : List H) (r2 : Int) (w : World) (hr : Kd.C k71 w A1 l1.length l1) (hc1 : l1.length ≤ c1) (hl : l1.length ≤ 6) (hf : f < l1.length)
    (x1 : w.cell? ⟨a.block, a.off + 1, none⟩ = some (.int .i8 (f : Int))) (x2 : w.cell? ⟨a.block, a.off + 2, none⟩ = some (.int .i8 (f : Int))) (x3 : w.cell? ⟨a.block, a.off + 3, none⟩ = some (.int .u8 3)) (x4 : w.cell? ⟨a.block, a.off + 4, none⟩ = some (.int .i16 e4))
    (hn : (decide ((Ap.give 1 (Ap.take 0 (l1.getD f z71) (wrap64 e4)) (wrap64 e4)).f0 < 0) = true ∧ (([] : List H), (4 : Int)) = (r1, r2)) ∨ (decide ((Ap.give 1 (Ap.take 0 (l1.getD f z71) (wrap64 e4)) (wrap64 e4)).f0 < 0) = false ∧ decide ((Ap.give 1 (Ap.take 0 (l1.getD f z71) (wrap64 e4)) (wrap64 e4)).f1 < 0) = true ∧ (([] : List H), (4 : Int)) = (r1, r2)) ∨ (decide ((Ap.give 1 (Ap.take 0 (l1.getD f z71) (wrap64 e4)) (wrap64 e4)).f0 < 0) = false ∧ decide ((Ap.give 1 (Ap.take 0 (l1.getD f z71) (wrap64 e4)) (wrap64 e4)).f1 < 0) = false ∧ decide ((Ap.give 1 (Ap.take 0 (l1.getD f z71) (wrap64 e4)) (wrap64 e4)).f2 < 0) = true ∧ (([] : List H), (4 : Int)) = (r1, r2)) ∨ (decide ((Ap.give 1 (Ap.take 0 (l1.getD f z71) (wrap64 e4)) (wrap64 e4)).f0 < 0) = false ∧ decide ((Ap.give 1 (Ap.take 0 (l1.getD f z71) (wrap64 e4)) (wrap64 e4)).f1 < 0) = false ∧ decide ((Ap.give 1 (Ap.take 0 (l1.getD f z71) (wrap64 e4)) (wrap64 e4)).f2 < 0) = false ∧ Ap.moveB 1 l1 f (wrap64 e4) = (r1, r2))) :
    Calls Try.prog 40 #[.agg #[.int .i16 p0, .int .i16 p1], .slice A1 l1.length c1, .pointer (some a)] w fun e w' => ∃ v : Value, e = .returned (.tuple #[v, .int .i64 r2]) ∧ Kd.R k71 71 w' w.heap.size (fun _ => True) v r1 ∧ Below w.heap.size w w' := by
  have HR := Aside0.mk hr; have X1 := Lib.hid x1; have X2 := Lib.hid x2; have X3 := Lib.hid x3; have X4 := Lib.hid x4
  clear hr x1 x2 x3 x4
  obtain ⟨F, hF⟩ : ∃ F, F = l1.getD f z71 := ⟨_, rfl⟩
  have HF := Lib.hid hF
  clear hF
  have Hn := Lib.hid (fun (y : H) (hy : y = Ap.give 1 (Ap.take 0 F (wrap64 e4)) (wrap64 e4)) => show (decide (y.f0 < 0) = true ∧ (([] : List H), (4 : Int)) = (r1, r2)) ∨ (decide (y.f0 < 0) = false ∧ decide (y.f1 < 0) = true ∧ (([] : List H), (4 : Int)) = (r1, r2)) ∨ (decide (y.f0 < 0) = false ∧ decide (y.f1 < 0) = false ∧ decide (y.f2 < 0) = true ∧ (([] : List H), (4 : Int)) = (r1, r2)) ∨ (decide (y.f0 < 0) = false ∧ decide (y.f1 < 0) = false ∧ decide (y.f2 < 0) = false ∧ Ap.moveB 1 l1 f (wrap64 e4) = (r1, r2)) by rw [hy, HF.out]; exact hn)
  clear hn
  have hf1 : decide ((f : Int) < (l1.length : Int)) = true := decide_eq_true (by omega)
  have hfz : decide (f < l1.length) = true := decide_eq_true hf
  go_enter Try.func40, Try.ntmps40
  have B0 : Aside0 (Below w.heap.size w (w.alloc (.cells #[.int .i16 p0, .int .i16 p1] 33))) := ⟨(Below.refl _ _).alloc (Nat.le_refl _) _⟩
  go_wp2_with (first | ((with_reducible refine gate_dst (N := 13) rfl ?_); refine Kd.R_lit k71 _ 71 ?hg (N := 13) ?hd (xs := ([] : List Ap.H)) (inner := []) (ok := fun _ => True) (okp := fun _ => True) ?hr ?hp (fun _ hk => hk) trivial (Below.refl _ _) (Nat.le_refl _) (by simp) ?_; (case hd => rfl); (case hg => rfl); (case hr => first | (go_simp; done) | (go_simp; rfl)); (case hp => exact (Reps.none _ _)); intro vl wl hol hbl hg_ hnew_; clear hg_ hnew_; have HOl := Aside0.mk hol; have HBl := Aside0.mk hbl; clear hol hbl) | ((with_reducible refine gate_builtin (b := .append) (xs := #[.tmp 13, .tmp 14]) rfl ?_); at_builtin; refine Kd.R_append_rows k71 (w0 := (w.alloc (.cells #[.int .i16 p0, .int .i16 p1] 33))) (w.alloc (.cells #[.int .i16 p0, .int .i16 p1] 33)).heap.size rfl (.tmp 13) (.tmp 14) 30 71 (.agg #[.int .i64 0, .int .i64 0, .int .i64 0, .int .i64 0, .int .i64 0]) 40 rfl Try.underlying30 info71 rfl (by decide) (by omega) vl ([] : List Ap.H) l1 _ _ _ (fun _ => True) (fun _ => False) rfl rfl ?aO ?aR (fun _ _ h => h) (fun _ h => h.elim) ?aF ?aB ?aS ?aL ?_; (case aR => exact Kd.C_below HR.out (below_then B0.out B0.out.size HBl.out)); (case aB => exact HBl.out); (case aF => exact fun _ _ => trivial); (case aO => exact HOl.out); (case aS => exact HBl.out.size); (case aL => simp only [List.length_nil, Nat.zero_add]; omega); intro v466 w5 ho hb2 hg hat; clear hg hat; have hR2 : Kd.R k71 71 w5 (w.heap.size + 1) (fun _ => True) v466 l1 := Kd.R_lower ho (show w.heap.size + 1 ≤ _ by simp); clear ho HOl HBl; obtain ⟨g, cap, rfl, -, -, -⟩ := Kd.R_form hR2 (show 0 < l1.length by omega); have hS5 : Ap.St2 w w5 g cap l1 p0 p1 := ⟨hR2, below_then B0.out B0.out.size hb2, hb2.cell (p := ⟨w.heap.size, 0, none⟩) (by simp) |>.trans (by simp), hb2.cell (p := ⟨w.heap.size, 1, none⟩) (by simp) |>.trans (by simp)⟩; clear hR2 hb2; have c0_hS5 := hS5.c0; have c1_hS5 := hS5.c1; have u1_hS5 := pw_cell_below hS5.b X1.out; have u2_hS5 := pw_cell_below hS5.b X2.out; have u3_hS5 := pw_cell_below hS5.b X3.out; have u4_hS5 := pw_cell_below hS5.b X4.out; obtain ⟨x0, x1, x2, x3, x4, fr_x⟩ := Ap.cells hS5.r (hf); rw [← HF.out] at x0 x1 x2 x3 x4) | ((with_reducible refine gate_store (t := 2) (p := 106) rfl ?_); refine store_event (t := 2) (p := 106) (v := ?vo_w6) (w1 := (w5.setCell ⟨g, f * 5, none⟩ (.int .i64 (wrap64 (F.f0 - wrap64 e4))))) ?hg ?ho ?hn ?hr ?_; (case ho => rfl); (case hg => rfl); (case hn => rfl); (case hr => first | (go_simp; done) | (go_simp; rfl)); intro w6 hw_; have hS6 : Ap.St2 w w6 g cap (l1.set f (⟨wrap64 (F.f0 - wrap64 e4), F.f1, F.f2, F.f3, F.f4⟩ : Ap.H)) p0 p1 := (by rw [hw_]; exact hS5.at (Ap.put0 hS5.r hf _ HF.out.symm)); clear hw_; clear c0_hS5 c1_hS5 u1_hS5 u2_hS5 u3_hS5 u4_hS5; clear x0 x1 x2 x3 x4 fr_x; clear hS5; have c0_hS6 := hS6.c0; have c1_hS6 := hS6.c1; have u1_hS6 := pw_cell_below hS6.b X1.out; have u2_hS6 := pw_cell_below hS6.b X2.out; have u3_hS6 := pw_cell_below hS6.b X3.out; have u4_hS6 := pw_cell_below hS6.b X4.out; obtain ⟨y0, y1, y2, y3, y4, fr_y⟩ := Ap.cells hS6.r (by rw [List.length_set]; exact hf); rw [getD_set_self hf] at y0 y1 y2 y3 y4) | ((with_reducible refine gate_store (t := 2) (p := 114) rfl ?_); refine store_event (t := 2) (p := 114) (v := ?vo_w7) (w1 := (w6.setCell ⟨g, f * 5 + 1, none⟩ (.int .i64 (wrap64 (F.f1 + wrap64 e4))))) ?hg ?ho ?hn ?hr ?_; (case ho => rfl); (case hg => rfl); (case hn => rfl); (case hr => first | (go_simp; done) | (go_simp; rfl)); intro w7 hw_; have hS7 : Ap.St2 w w7 g cap ((l1.set f (⟨wrap64 (F.f0 - wrap64 e4), F.f1, F.f2, F.f3, F.f4⟩ : Ap.H)).set f (⟨wrap64 (F.f0 - wrap64 e4), wrap64 (F.f1 + wrap64 e4), F.f2, F.f3, F.f4⟩ : Ap.H)) p0 p1 := (by rw [hw_]; exact hS6.at (Ap.put1 hS6.r (by rw [List.length_set]; exact hf) _ (getD_set_self hf _ _))); clear hw_; clear c0_hS6 c1_hS6 u1_hS6 u2_hS6 u3_hS6 u4_hS6; clear y0 y1 y2 y3 y4 fr_y; clear hS6; rw [List.set_set] at hS7; obtain ⟨F2, hF2⟩ : ∃ y, y = (⟨wrap64 (F.f0 - wrap64 e4), wrap64 (F.f1 + wrap64 e4), F.f2, F.f3, F.f4⟩ : Ap.H) := ⟨_, rfl⟩; rw [← hF2] at hS7; have hgF : (l1.set f F2).getD f z71 = F2 := getD_set_self hf _ _; have HF1 := Lib.hid hF2; clear hF2; have HgF := Lib.hid hgF; clear hgF; have c0_hS7 := hS7.c0; have c1_hS7 := hS7.c1; have u1_hS7 := pw_cell_below hS7.b X1.out; have u2_hS7 := pw_cell_below hS7.b X2.out; have u3_hS7 := pw_cell_below hS7.b X3.out; have u4_hS7 := pw_cell_below hS7.b X4.out; obtain ⟨x0, x1, x2, x3, x4, fr_x⟩ := Ap.cells hS7.r (by rw [List.length_set]; exact hf); rw [HgF.out] at x0 x1 x2 x3 x4; have hn_ := Hn.out F2 HF1.out; clear Hn; rcases hn_ with ⟨n0, hh_⟩ | ⟨n0, n1, hh_⟩ | ⟨n0, n1, n2, hh_⟩ | ⟨n0, n1, n2, hh_⟩ <;> (have Hh := Lib.hid hh_; clear hh_)) | ((with_reducible refine gate_dst (N := 152) rfl ?_); refine Kd.R_lit k71 _ 71 ?hg (N := 152) ?hd (xs := ([] : List Ap.H)) (inner := []) (ok := fun _ => True) (okp := fun _ => True) ?hr ?hp (fun _ hk => hk) trivial (Below.refl _ _) (Nat.le_refl _) (by simp) ?_; (case hd => rfl); (case hg => rfl); (case hr => first | (go_simp; done) | (go_simp; rfl)); (case hp => exact (Reps.none _ _)); intro vl wl hol hbl hg_ hnew_; clear hg_ hnew_; have HOn := Aside0.mk hol; have HBn := Aside0.mk hbl; clear hol hbl))
  iterate 3
    · obtain ⟨rfl, rfl⟩ := Prod.mk.inj Hh.out
      go_ret2
      exact ⟨_, rfl, Kd.R_lower HOn.out hS7.b.size, below_then hS7.b hS7.b.size HBn.out⟩
  go_quiet (fail)
  clear c0_hS7 c1_hS7 u1_hS7 u2_hS7 u3_hS7 u4_hS7
  clear x0 x1 x2 x3 x4 fr_x
  first
    | refine Ap.reletE (F := fun w' => Ap.St2 w w' g cap (l1.set f F2) p0 p1) (hS7.drewN _) ?_
    | refine Ap.reletI (F := fun w' => Ap.St2 w w' g cap (l1.set f F2) p0 p1) (hS7.drewN _) ?_
    | refine Ap.reletC (F := fun w' => Ap.St2 w w' g cap (l1.set f F2) p0 p1) (hS7.drewN _) ?_
  rintro w8 hS8
  clear hS7
  have c0_hS8 := hS8.c0; have c1_hS8 := hS8.c1
  have u1_hS8 := pw_cell_below hS8.b X1.out; have u2_hS8 := pw_cell_below hS8.b X2.out; have u3_hS8 := pw_cell_below hS8.b X3.out; have u4_hS8 := pw_cell_below hS8.b X4.out
  obtain ⟨x0, x1, x2, x3, x4, fr_x⟩ := Ap.cells hS8.r (by simp only [List.length_set]; exact hf)
  rw [HgF.out] at x0 x1 x2 x3 x4
  go_wp2_with (go_at_call 73; fail)
  have hres : (if hB F2 = true then ((l1.set f F2), (0 : Int)) else ([], 3)) = (r1, r2) := by rw [HF1.out, HF.out]; exact Hh.out
  clear Hh HF1 HgF HF
  cases bF2 : hB F2
  · simp only [bF2, Bool.false_and, if_neg Bool.false_ne_true] at hres
    obtain ⟨rfl, rfl⟩ := Prod.mk.inj hres
    clear hres
    have BF2 := Lib.hid (show heldB F2.f0 F2.f1 F2.f2 F2.f3 F2.f4 = false from bF2)
    clear bF2
    go_wp2_with (fail "a call")
    refine (l06Held_at _ F2.f0 F2.f1 F2.f2 F2.f3 F2.f4 _ x0 x1 x2 x3 x4).mono ?_
    rw [BF2.out]
    rintro e w' ⟨rfl, rfl⟩
    go_wp2_with (((with_reducible refine gate_dst (N := 190) rfl ?_); refine Kd.R_lit k71 _ 71 ?hg (N := 190) ?hd (xs := ([] : List Ap.H)) (inner := []) (ok := fun _ => True) (okp := fun _ => True) ?hr ?hp (fun _ hk => hk) trivial (Below.refl _ _) (Nat.le_refl _) (by simp) ?_; (case hd => rfl); (case hg => rfl); (case hr => first | (go_simp; done) | (go_simp; rfl)); (case hp => exact (Reps.none _ _)); intro vl wl hol hbl hg_ hnew_; clear hg_ hnew_; have HOn := Aside0.mk hol; have HBn := Aside0.mk hbl; clear hol hbl))
    go_ret2
    exact ⟨_, rfl, Kd.R_lower HOn.out hS8.b.size, below_then hS8.b hS8.b.size HBn.out⟩
  · simp only [bF2, if_true] at hres
    obtain ⟨rfl, rfl⟩ := Prod.mk.inj hres
    clear hres
    have BF2 := Lib.hid (show heldB F2.f0 F2.f1 F2.f2 F2.f3 F2.f4 = true from bF2)
    clear bF2
    go_wp2_with (fail "a call")
    refine (l06Held_at _ F2.f0 F2.f1 F2.f2 F2.f3 F2.f4 _ x0 x1 x2 x3 x4).mono ?_
    rw [BF2.out]
    rintro e w' ⟨rfl, rfl⟩
    go_wp2_with (fail "a call")
    refine (l06Held_at _ F2.f0 F2.f1 F2.f2 F2.f3 F2.f4 _ x0 x1 x2 x3 x4).mono ?_
    rw [BF2.out]
    rintro e w' ⟨rfl, rfl⟩
    have hr_ := Kd.R_lower hS8.r (show w.heap.size ≤ w.heap.size + 1 by omega)
    simp only [List.length_set] at hr_
    go_wp2
    go_ret2
    exact ⟨_, rfl, hr_, hS8.b⟩
set_option maxHeartbeats 8000000 in
set_option maxRecDepth 100000 in
theorem s4 (A1 : Option Addr) (c1 : Nat) (l1 : List H) (p0 p1 e4 : Int) (a : Addr) (f : Nat) (r1 : List H) (r2 : Int) (w : World) (hr : Kd.C k71 w A1 l1.length l1) (hc1 : l1.length ≤ c1) (hl : l1.length ≤ 6) (hf : f < l1.length)
    (x1 : w.cell? ⟨a.block, a.off + 1, none⟩ = some (.int .i8 (f : Int))) (x2 : w.cell? ⟨a.block, a.off + 2, none⟩ = some (.int .i8 (f : Int))) (x3 : w.cell? ⟨a.block, a.off + 3, none⟩ = some (.int .u8 4)) (x4 : w.cell? ⟨a.block, a.off + 4, none⟩ = some (.int .i16 e4))
    (hn : (decide ((Ap.give 3 (Ap.take 0 (l1.getD f z71) (wrap64 e4)) (wrap64 e4)).f0 < 0) = true ∧ (([] : List H), (4 : Int)) = (r1, r2)) ∨ (decide ((Ap.give 3 (Ap.take 0 (l1.getD f z71) (wrap64 e4)) (wrap64 e4)).f0 < 0) = false ∧ decide ((Ap.give 3 (Ap.take 0 (l1.getD f z71) (wrap64 e4)) (wrap64 e4)).f1 < 0) = true ∧ (([] : List H), (4 : Int)) = (r1, r2)) ∨ (decide ((Ap.give 3 (Ap.take 0 (l1.getD f z71) (wrap64 e4)) (wrap64 e4)).f0 < 0) = false ∧ decide ((Ap.give 3 (Ap.take 0 (l1.getD f z71) (wrap64 e4)) (wrap64 e4)).f1 < 0) = false ∧ decide ((Ap.give 3 (Ap.take 0 (l1.getD f z71) (wrap64 e4)) (wrap64 e4)).f2 < 0) = true ∧ (([] : List H), (4 : Int)) = (r1, r2)) ∨ (decide ((Ap.give 3 (Ap.take 0 (l1.getD f z71) (wrap64 e4)) (wrap64 e4)).f0 < 0) = false ∧ decide ((Ap.give 3 (Ap.take 0 (l1.getD f z71) (wrap64 e4)) (wrap64 e4)).f1 < 0) = false ∧ decide ((Ap.give 3 (Ap.take 0 (l1.getD f z71) (wrap64 e4)) (wrap64 e4)).f2 < 0) = false ∧ Ap.moveB 3 l1 f (wrap64 e4) = (r1, r2))) :
    Calls Try.prog 40 #[.agg #[.int .i16 p0, .int .i16 p1], .slice A1 l1.length c1, .pointer (some a)] w fun e w' => ∃ v : Value, e = .returned (.tuple #[v, .int .i64 r2]) ∧ Kd.R k71 71 w' w.heap.size (fun _ => True) v r1 ∧ Below w.heap.size w w' := by
  have HR := Aside0.mk hr; have X1 := Lib.hid x1; have X2 := Lib.hid x2; have X3 := Lib.hid x3; have X4 := Lib.hid x4
  clear hr x1 x2 x3 x4
  obtain ⟨F, hF⟩ : ∃ F, F = l1.getD f z71 := ⟨_, rfl⟩
  have HF := Lib.hid hF
  clear hF
  have Hn := Lib.hid (fun (y : H) (hy : y = Ap.give 3 (Ap.take 0 F (wrap64 e4)) (wrap64 e4)) => show (decide (y.f0 < 0) = true ∧ (([] : List H), (4 : Int)) = (r1, r2)) ∨ (decide (y.f0 < 0) = false ∧ decide (y.f1 < 0) = true ∧ (([] : List H), (4 : Int)) = (r1, r2)) ∨ (decide (y.f0 < 0) = false ∧ decide (y.f1 < 0) = false ∧ decide (y.f2 < 0) = true ∧ (([] : List H), (4 : Int)) = (r1, r2)) ∨ (decide (y.f0 < 0) = false ∧ decide (y.f1 < 0) = false ∧ decide (y.f2 < 0) = false ∧ Ap.moveB 3 l1 f (wrap64 e4) = (r1, r2)) by rw [hy, HF.out]; exact hn)
  clear hn
  have hf1 : decide ((f : Int) < (l1.length : Int)) = true := decide_eq_true (by omega)
  have hfz : decide (f < l1.length) = true := decide_eq_true hf
  go_enter Try.func40, Try.ntmps40
  have B0 : Aside0 (Below w.heap.size w (w.alloc (.cells #[.int .i16 p0, .int .i16 p1] 33))) := ⟨(Below.refl _ _).alloc (Nat.le_refl _) _⟩
  go_wp2_with (first | ((with_reducible refine gate_dst (N := 13) rfl ?_); refine Kd.R_lit k71 _ 71 ?hg (N := 13) ?hd (xs := ([] : List Ap.H)) (inner := []) (ok := fun _ => True) (okp := fun _ => True) ?hr ?hp (fun _ hk => hk) trivial (Below.refl _ _) (Nat.le_refl _) (by simp) ?_; (case hd => rfl); (case hg => rfl); (case hr => first | (go_simp; done) | (go_simp; rfl)); (case hp => exact (Reps.none _ _)); intro vl wl hol hbl hg_ hnew_; clear hg_ hnew_; have HOl := Aside0.mk hol; have HBl := Aside0.mk hbl; clear hol hbl) | ((with_reducible refine gate_builtin (b := .append) (xs := #[.tmp 13, .tmp 14]) rfl ?_); at_builtin; refine Kd.R_append_rows k71 (w0 := (w.alloc (.cells #[.int .i16 p0, .int .i16 p1] 33))) (w.alloc (.cells #[.int .i16 p0, .int .i16 p1] 33)).heap.size rfl (.tmp 13) (.tmp 14) 30 71 (.agg #[.int .i64 0, .int .i64 0, .int .i64 0, .int .i64 0, .int .i64 0]) 40 rfl Try.underlying30 info71 rfl (by decide) (by omega) vl ([] : List Ap.H) l1 _ _ _ (fun _ => True) (fun _ => False) rfl rfl ?aO ?aR (fun _ _ h => h) (fun _ h => h.elim) ?aF ?aB ?aS ?aL ?_; (case aR => exact Kd.C_below HR.out (below_then B0.out B0.out.size HBl.out)); (case aB => exact HBl.out); (case aF => exact fun _ _ => trivial); (case aO => exact HOl.out); (case aS => exact HBl.out.size); (case aL => simp only [List.length_nil, Nat.zero_add]; omega); intro v466 w5 ho hb2 hg hat; clear hg hat; have hR2 : Kd.R k71 71 w5 (w.heap.size + 1) (fun _ => True) v466 l1 := Kd.R_lower ho (show w.heap.size + 1 ≤ _ by simp); clear ho HOl HBl; obtain ⟨g, cap, rfl, -, -, -⟩ := Kd.R_form hR2 (show 0 < l1.length by omega); have hS5 : Ap.St2 w w5 g cap l1 p0 p1 := ⟨hR2, below_then B0.out B0.out.size hb2, hb2.cell (p := ⟨w.heap.size, 0, none⟩) (by simp) |>.trans (by simp), hb2.cell (p := ⟨w.heap.size, 1, none⟩) (by simp) |>.trans (by simp)⟩; clear hR2 hb2; have c0_hS5 := hS5.c0; have c1_hS5 := hS5.c1; have u1_hS5 := pw_cell_below hS5.b X1.out; have u2_hS5 := pw_cell_below hS5.b X2.out; have u3_hS5 := pw_cell_below hS5.b X3.out; have u4_hS5 := pw_cell_below hS5.b X4.out; obtain ⟨x0, x1, x2, x3, x4, fr_x⟩ := Ap.cells hS5.r (hf); rw [← HF.out] at x0 x1 x2 x3 x4) | ((with_reducible refine gate_store (t := 2) (p := 124) rfl ?_); refine store_event (t := 2) (p := 124) (v := ?vo_w6) (w1 := (w5.setCell ⟨g, f * 5, none⟩ (.int .i64 (wrap64 (F.f0 - wrap64 e4))))) ?hg ?ho ?hn ?hr ?_; (case ho => rfl); (case hg => rfl); (case hn => rfl); (case hr => first | (go_simp; done) | (go_simp; rfl)); intro w6 hw_; have hS6 : Ap.St2 w w6 g cap (l1.set f (⟨wrap64 (F.f0 - wrap64 e4), F.f1, F.f2, F.f3, F.f4⟩ : Ap.H)) p0 p1 := (by rw [hw_]; exact hS5.at (Ap.put0 hS5.r hf _ HF.out.symm)); clear hw_; clear c0_hS5 c1_hS5 u1_hS5 u2_hS5 u3_hS5 u4_hS5; clear x0 x1 x2 x3 x4 fr_x; clear hS5; have c0_hS6 := hS6.c0; have c1_hS6 := hS6.c1; have u1_hS6 := pw_cell_below hS6.b X1.out; have u2_hS6 := pw_cell_below hS6.b X2.out; have u3_hS6 := pw_cell_below hS6.b X3.out; have u4_hS6 := pw_cell_below hS6.b X4.out; obtain ⟨y0, y1, y2, y3, y4, fr_y⟩ := Ap.cells hS6.r (by rw [List.length_set]; exact hf); rw [getD_set_self hf] at y0 y1 y2 y3 y4) | ((with_reducible refine gate_store (t := 2) (p := 132) rfl ?_); refine store_event (t := 2) (p := 132) (v := ?vo_w7) (w1 := (w6.setCell ⟨g, f * 5 + 3, none⟩ (.int .i64 (wrap64 (F.f3 + wrap64 e4))))) ?hg ?ho ?hn ?hr ?_; (case ho => rfl); (case hg => rfl); (case hn => rfl); (case hr => first | (go_simp; done) | (go_simp; rfl)); intro w7 hw_; have hS7 : Ap.St2 w w7 g cap ((l1.set f (⟨wrap64 (F.f0 - wrap64 e4), F.f1, F.f2, F.f3, F.f4⟩ : Ap.H)).set f (⟨wrap64 (F.f0 - wrap64 e4), F.f1, F.f2, wrap64 (F.f3 + wrap64 e4), F.f4⟩ : Ap.H)) p0 p1 := (by rw [hw_]; exact hS6.at (Ap.put3 hS6.r (by rw [List.length_set]; exact hf) _ (getD_set_self hf _ _))); clear hw_; clear c0_hS6 c1_hS6 u1_hS6 u2_hS6 u3_hS6 u4_hS6; clear y0 y1 y2 y3 y4 fr_y; clear hS6; rw [List.set_set] at hS7; obtain ⟨F2, hF2⟩ : ∃ y, y = (⟨wrap64 (F.f0 - wrap64 e4), F.f1, F.f2, wrap64 (F.f3 + wrap64 e4), F.f4⟩ : Ap.H) := ⟨_, rfl⟩; rw [← hF2] at hS7; have hgF : (l1.set f F2).getD f z71 = F2 := getD_set_self hf _ _; have HF1 := Lib.hid hF2; clear hF2; have HgF := Lib.hid hgF; clear hgF; have c0_hS7 := hS7.c0; have c1_hS7 := hS7.c1; have u1_hS7 := pw_cell_below hS7.b X1.out; have u2_hS7 := pw_cell_below hS7.b X2.out; have u3_hS7 := pw_cell_below hS7.b X3.out; have u4_hS7 := pw_cell_below hS7.b X4.out; obtain ⟨x0, x1, x2, x3, x4, fr_x⟩ := Ap.cells hS7.r (by rw [List.length_set]; exact hf); rw [HgF.out] at x0 x1 x2 x3 x4; have hn_ := Hn.out F2 HF1.out; clear Hn; rcases hn_ with ⟨n0, hh_⟩ | ⟨n0, n1, hh_⟩ | ⟨n0, n1, n2, hh_⟩ | ⟨n0, n1, n2, hh_⟩ <;> (have Hh := Lib.hid hh_; clear hh_)) | ((with_reducible refine gate_dst (N := 152) rfl ?_); refine Kd.R_lit k71 _ 71 ?hg (N := 152) ?hd (xs := ([] : List Ap.H)) (inner := []) (ok := fun _ => True) (okp := fun _ => True) ?hr ?hp (fun _ hk => hk) trivial (Below.refl _ _) (Nat.le_refl _) (by simp) ?_; (case hd => rfl); (case hg => rfl); (case hr => first | (go_simp; done) | (go_simp; rfl)); (case hp => exact (Reps.none _ _)); intro vl wl hol hbl hg_ hnew_; clear hg_ hnew_; have HOn := Aside0.mk hol; have HBn := Aside0.mk hbl; clear hol hbl))
  iterate 3
    · obtain ⟨rfl, rfl⟩ := Prod.mk.inj Hh.out
      go_ret2
      exact ⟨_, rfl, Kd.R_lower HOn.out hS7.b.size, below_then hS7.b hS7.b.size HBn.out⟩
  go_quiet (fail)
  clear c0_hS7 c1_hS7 u1_hS7 u2_hS7 u3_hS7 u4_hS7
  clear x0 x1 x2 x3 x4 fr_x
  first
    | refine Ap.reletE (F := fun w' => Ap.St2 w w' g cap (l1.set f F2) p0 p1) (hS7.drewN _) ?_
    | refine Ap.reletI (F := fun w' => Ap.St2 w w' g cap (l1.set f F2) p0 p1) (hS7.drewN _) ?_
    | refine Ap.reletC (F := fun w' => Ap.St2 w w' g cap (l1.set f F2) p0 p1) (hS7.drewN _) ?_
  rintro w8 hS8
  clear hS7
  have c0_hS8 := hS8.c0; have c1_hS8 := hS8.c1
  have u1_hS8 := pw_cell_below hS8.b X1.out; have u2_hS8 := pw_cell_below hS8.b X2.out; have u3_hS8 := pw_cell_below hS8.b X3.out; have u4_hS8 := pw_cell_below hS8.b X4.out
  obtain ⟨x0, x1, x2, x3, x4, fr_x⟩ := Ap.cells hS8.r (by simp only [List.length_set]; exact hf)
  rw [HgF.out] at x0 x1 x2 x3 x4
  go_wp2_with (go_at_call 73; fail)
  have hres : (if hB F2 = true then ((l1.set f F2), (0 : Int)) else ([], 3)) = (r1, r2) := by rw [HF1.out, HF.out]; exact Hh.out
  clear Hh HF1 HgF HF
  cases bF2 : hB F2
  · simp only [bF2, Bool.false_and, if_neg Bool.false_ne_true] at hres
    obtain ⟨rfl, rfl⟩ := Prod.mk.inj hres
    clear hres
    have BF2 := Lib.hid (show heldB F2.f0 F2.f1 F2.f2 F2.f3 F2.f4 = false from bF2)
    clear bF2
    go_wp2_with (fail "a call")
    refine (l06Held_at _ F2.f0 F2.f1 F2.f2 F2.f3 F2.f4 _ x0 x1 x2 x3 x4).mono ?_
    rw [BF2.out]
    rintro e w' ⟨rfl, rfl⟩
    go_wp2_with (((with_reducible refine gate_dst (N := 190) rfl ?_); refine Kd.R_lit k71 _ 71 ?hg (N := 190) ?hd (xs := ([] : List Ap.H)) (inner := []) (ok := fun _ => True) (okp := fun _ => True) ?hr ?hp (fun _ hk => hk) trivial (Below.refl _ _) (Nat.le_refl _) (by simp) ?_; (case hd => rfl); (case hg => rfl); (case hr => first | (go_simp; done) | (go_simp; rfl)); (case hp => exact (Reps.none _ _)); intro vl wl hol hbl hg_ hnew_; clear hg_ hnew_; have HOn := Aside0.mk hol; have HBn := Aside0.mk hbl; clear hol hbl))
    go_ret2
    exact ⟨_, rfl, Kd.R_lower HOn.out hS8.b.size, below_then hS8.b hS8.b.size HBn.out⟩
  · simp only [bF2, if_true] at hres
    obtain ⟨rfl, rfl⟩ := Prod.mk.inj hres
    clear hres
    have BF2 := Lib.hid (show heldB F2.f0 F2.f1 F2.f2 F2.f3 F2.f4 = true from bF2)
    clear bF2
    go_wp2_with (fail "a call")
    refine (l06Held_at _ F2.f0 F2.f1 F2.f2 F2.f3 F2.f4 _ x0 x1 x2 x3 x4).mono ?_
    rw [BF2.out]
    rintro e w' ⟨rfl, rfl⟩
    go_wp2_with (fail "a call")
    refine (l06Held_at _ F2.f0 F2.f1 F2.f2 F2.f3 F2.f4 _ x0 x1 x2 x3 x4).mono ?_
    rw [BF2.out]
    rintro e w' ⟨rfl, rfl⟩
    have hr_ := Kd.R_lower hS8.r (show w.heap.size ≤ w.heap.size + 1 by omega)
    simp only [List.length_set] at hr_
    go_wp2
    go_ret2
    exact ⟨_, rfl, hr_, hS8.b⟩
end Ap
end Go.Proofs.Ytncbgnlojabpfaa.G
