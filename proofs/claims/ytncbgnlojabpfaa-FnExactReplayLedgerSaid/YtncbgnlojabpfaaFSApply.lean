/- spec.ApplyEntry, spec.l06Replay, by hand. Printed by wip/tools/apr.py. -/
import Derived.Test.YtncbgnlojabpfaaFApply
import Derived.Test.YtncbgnlojabpfaaG3
namespace Go.Proofs.Ytncbgnlojabpfaa.G
open Go.RowKit Go.Proofs.YtncbgnlojabpfaaW.PrintWords Go.Proofs.YtncbgnlojabpfaaW.PrintLast Go.Proofs.YtncbgnlojabpfaaW.PrintMore
attribute [local go_sem] max2_int min2_int max_two min_two max_three min_three max_four min_four   -- for this text's walks alone
set_option linter.unusedVariables false
set_option linter.unusedSimpArgs false

open Go.Proofs.Ytncbgnlojabpfaa.Wk Go.Proofs.Ytncbgnlojabpfaa.Pl

def spec_ApplyEntry.f (a0_0 a0_1 : Int) (l1 : List S71) (a2_0 a2_1 a2_2 a2_3 a2_4 : Int) : Option (List S71 × Int) :=
  (spec_l06Asked.f a0_0 a0_1 l1 [⟨a2_0, a2_1, a2_2, a2_3, a2_4⟩]).bind fun c => if c = 0 then (if Ap.ok l1 a2_1 a2_2 a2_3 a2_4 = true then some (Ap.res a0_0 a0_1 l1 a2_1 a2_2 a2_3 a2_4) else none) else some ([], c)
set_option maxHeartbeats 4000000 in
set_option maxRecDepth 100000 in
theorem spec_ApplyEntry.calls (a0_0 a0_1 : Int) (A1 : Option Addr) (c1 : Nat) (l1 : List S71) (a2_0 a2_1 a2_2 a2_3 a2_4 : Int) (r1 : List S71) (r2 : Int) (w : World) (hr1 : Kd.C k71 w A1 l1.length l1) (hc1 : l1.length ≤ c1) (h : spec_ApplyEntry.f a0_0 a0_1 l1 a2_0 a2_1 a2_2 a2_3 a2_4 = some (r1, r2)) :
    Calls Try.prog 10 #[.agg #[.int .i16 a0_0, .int .i16 a0_1], .slice A1 l1.length c1, .agg #[.int .i16 a2_0, .int .i8 a2_1, .int .i8 a2_2, .int .u8 a2_3, .int .i16 a2_4]] w fun e w' => ∃ v : Value, e = .returned (.tuple #[v, .int .i64 r2]) ∧ Kd.R k71 71 w' w.heap.size (fun _ => True) v r1 ∧ Below w.heap.size w w' := by
  unfold spec_ApplyEntry.f at h
  obtain ⟨code, hA, h⟩ := Option.bind_eq_some_iff.mp h
  obtain ⟨l2, hl2⟩ : ∃ l2 : List S36, l2 = [⟨a2_0, a2_1, a2_2, a2_3, a2_4⟩] := ⟨_, rfl⟩
  rw [← hl2] at hA
  have HA := Lib.hid hA
  have HL2 := Lib.hid hl2
  have HR := Aside0.mk hr1
  clear hA hl2 hr1
  have B0 : Aside0 (Below w.heap.size w ((w.alloc (.cells #[.int .i16 a0_0, .int .i16 a0_1] 33)).alloc (.cells #[.int .i16 a2_0, .int .i8 a2_1, .int .i8 a2_2, .int .u8 a2_3, .int .i16 a2_4] 36))) := ⟨((Below.refl _ _).alloc (Nat.le_refl _) _).alloc (by simp) _⟩
  have X0 := fun (h : ((w.alloc (.cells #[.int .i16 a0_0, .int .i16 a0_1] 33)).alloc (.cells #[.int .i16 a2_0, .int .i8 a2_1, .int .i8 a2_2, .int .u8 a2_3, .int .i16 a2_4] 36)).cell? ⟨w.heap.size, 0, none⟩ = some (.int .i16 a0_0)) => h
  have X1 := fun (h : ((w.alloc (.cells #[.int .i16 a0_0, .int .i16 a0_1] 33)).alloc (.cells #[.int .i16 a2_0, .int .i8 a2_1, .int .i8 a2_2, .int .u8 a2_3, .int .i16 a2_4] 36)).cell? ⟨w.heap.size, 1, none⟩ = some (.int .i16 a0_1)) => h
  have X2 := fun (h : ((w.alloc (.cells #[.int .i16 a0_0, .int .i16 a0_1] 33)).alloc (.cells #[.int .i16 a2_0, .int .i8 a2_1, .int .i8 a2_2, .int .u8 a2_3, .int .i16 a2_4] 36)).cell? ⟨w.heap.size + 1, 1, none⟩ = some (.int .i8 a2_1)) => h
  have X3 := fun (h : ((w.alloc (.cells #[.int .i16 a0_0, .int .i16 a0_1] 33)).alloc (.cells #[.int .i16 a2_0, .int .i8 a2_1, .int .i8 a2_2, .int .u8 a2_3, .int .i16 a2_4] 36)).cell? ⟨w.heap.size + 1, 2, none⟩ = some (.int .i8 a2_2)) => h
  have X4 := fun (h : ((w.alloc (.cells #[.int .i16 a0_0, .int .i16 a0_1] 33)).alloc (.cells #[.int .i16 a2_0, .int .i8 a2_1, .int .i8 a2_2, .int .u8 a2_3, .int .i16 a2_4] 36)).cell? ⟨w.heap.size + 1, 3, none⟩ = some (.int .u8 a2_3)) => h
  have X5 := fun (h : ((w.alloc (.cells #[.int .i16 a0_0, .int .i16 a0_1] 33)).alloc (.cells #[.int .i16 a2_0, .int .i8 a2_1, .int .i8 a2_2, .int .u8 a2_3, .int .i16 a2_4] 36)).cell? ⟨w.heap.size + 1, 4, none⟩ = some (.int .i16 a2_4)) => h
  by_cases hz : code = 0
  · subst hz
    rw [if_pos rfl] at h
    by_cases hok : Ap.ok l1 a2_1 a2_2 a2_3 a2_4 = true
    case neg => rw [if_neg hok] at h; cases h
    rw [if_pos hok] at h
    have HK := Lib.hid hok
    have HH := Lib.hid (Option.some.inj h)
    clear hok h
    go_enter Try.func10, Try.ntmps10
    go_wp2_with (first | ((with_reducible refine gate_dst (N := 12) rfl ?_); (refine Kd.R_lit k36 _ 36 ?hg (N := 12) ?hd (xs := ([⟨a2_0, a2_1, a2_2, a2_3, a2_4⟩] : List S36)) (inner := [.int .i16 a2_0, .int .i8 a2_1, .int .i8 a2_2, .int .u8 a2_3, .int .i16 a2_4]) (ok := fun _ => True) (okp := fun _ => True) ?hr ?hp (fun _ hk => hk) trivial (Below.refl _ _) (Nat.le_refl _) (by simp) ?_; (case hd => rfl); (case hg => rfl); (case hr => first | (go_simp; done) | (go_simp; rfl)); (case hp => exact Ap.reps1 (k36_mkM _ _ _ ⟨a2_0, a2_1, a2_2, a2_3, a2_4⟩) rfl); intro vl wl hol hbl hg_ hnew_; clear hg_ hnew_; rw [← HL2.out] at hol; obtain ⟨A2, c2, rfl, hcl2, hC2⟩ := Kd.R_reads hol; have HC2 := Aside0.mk hC2; have B1 := Aside0.mk (below_then B0.out B0.out.size hbl); have c0 := pw_cell_below hbl (X0 (by simp)); have c1_ := pw_cell_below hbl (X1 (by simp)); have d1 := pw_cell_below hbl (X2 (by simp)); have d2 := pw_cell_below hbl (X3 (by simp)); have d3 := pw_cell_below hbl (X4 (by simp)); have d4 := pw_cell_below hbl (X5 (by simp)); clear hol hbl hC2)) | (go_at_call 39; (refine (spec_l06Asked.calls a0_0 a0_1 A1 c1 l1 A2 c2 l2 0 _ (Kd.C_below HR.out B1.out) hc1 HC2.out hcl2 HA.out).mono ?_; rintro e wb ⟨rfl, hbb⟩; have B2 := Aside0.mk (below_then B1.out B1.out.size hbb); replace c0 := pw_cell_below hbb c0; replace c1_ := pw_cell_below hbb c1_; replace d1 := pw_cell_below hbb d1; replace d2 := pw_cell_below hbb d2; replace d3 := pw_cell_below hbb d3; replace d4 := pw_cell_below hbb d4; clear hbb B1 HC2)) | (go_at_call 40; (refine (Ap.spec_at A1 c1 l1 a0_0 a0_1 ⟨w.heap.size + 1, 0, none⟩ a2_1 a2_2 a2_3 a2_4 r1 r2 _ (Kd.C_below HR.out B2.out) hc1 (by simpa using d1) (by simpa using d2) (by simpa using d3) (by simpa using d4) HK.out HH.out).mono ?_; rintro e wc ⟨v, rfl, hRv, hbc⟩)))
    go_ret2
    exact ⟨v, rfl, Kd.R_lower hRv B2.out.size, below_then B2.out B2.out.size hbc⟩
  · rw [if_neg hz] at h
    obtain ⟨rfl, rfl⟩ := Prod.mk.inj (Option.some.inj h)
    clear h
    have hz1 : (code == 0) = false := beq_eq_false_iff_ne.mpr hz
    have hz2 : (code != 0) = true := bne_iff_ne.mpr hz
    clear hz
    go_enter Try.func10, Try.ntmps10
    go_wp2_with (first | ((with_reducible refine gate_dst (N := 12) rfl ?_); (refine Kd.R_lit k36 _ 36 ?hg (N := 12) ?hd (xs := ([⟨a2_0, a2_1, a2_2, a2_3, a2_4⟩] : List S36)) (inner := [.int .i16 a2_0, .int .i8 a2_1, .int .i8 a2_2, .int .u8 a2_3, .int .i16 a2_4]) (ok := fun _ => True) (okp := fun _ => True) ?hr ?hp (fun _ hk => hk) trivial (Below.refl _ _) (Nat.le_refl _) (by simp) ?_; (case hd => rfl); (case hg => rfl); (case hr => first | (go_simp; done) | (go_simp; rfl)); (case hp => exact Ap.reps1 (k36_mkM _ _ _ ⟨a2_0, a2_1, a2_2, a2_3, a2_4⟩) rfl); intro vl wl hol hbl hg_ hnew_; clear hg_ hnew_; rw [← HL2.out] at hol; obtain ⟨A2, c2, rfl, hcl2, hC2⟩ := Kd.R_reads hol; have HC2 := Aside0.mk hC2; have B1 := Aside0.mk (below_then B0.out B0.out.size hbl); have c0 := pw_cell_below hbl (X0 (by simp)); have c1_ := pw_cell_below hbl (X1 (by simp)); have d1 := pw_cell_below hbl (X2 (by simp)); have d2 := pw_cell_below hbl (X3 (by simp)); have d3 := pw_cell_below hbl (X4 (by simp)); have d4 := pw_cell_below hbl (X5 (by simp)); clear hol hbl hC2)) | (go_at_call 39; (refine (spec_l06Asked.calls a0_0 a0_1 A1 c1 l1 A2 c2 l2 code _ (Kd.C_below HR.out B1.out) hc1 HC2.out hcl2 HA.out).mono ?_; rintro e wb ⟨rfl, hbb⟩; have B2 := Aside0.mk (below_then B1.out B1.out.size hbb); replace c0 := pw_cell_below hbb c0; replace c1_ := pw_cell_below hbb c1_; replace d1 := pw_cell_below hbb d1; replace d2 := pw_cell_below hbb d2; replace d3 := pw_cell_below hbb d3; replace d4 := pw_cell_below hbb d4; clear hbb B1 HC2)) | ((with_reducible refine gate_dst (N := 16) rfl ?_); (refine Kd.R_lit k71 _ 71 ?hg (N := 16) ?hd (xs := ([] : List S71)) (inner := []) (ok := fun _ => True) (okp := fun _ => True) ?hr ?hp (fun _ hk => hk) trivial (Below.refl _ _) (Nat.le_refl _) (by simp) ?_; (case hd => rfl); (case hg => rfl); (case hr => first | (go_simp; done) | (go_simp; rfl)); (case hp => exact (Reps.none _ _)); intro vl wl hol hbl hg_ hnew_; clear hg_ hnew_; have HOl := Aside0.mk hol; have HBl := Aside0.mk hbl; clear hol hbl)))
    go_ret2
    exact ⟨_, rfl, Kd.R_lower HOl.out B2.out.size, below_then B2.out B2.out.size HBl.out⟩

namespace Ap
abbrev En := S36
/-- The holdings behind all entries but one, from place i on. -/
def rp (p0 p1 : Int) (l2 : List En) (but : Int) : Nat → Nat → List H → Option (List H × Int × Int)
  | 0, _, now => some (now, -1, 0)
  | d + 1, i, now => if (i : Int) = but then rp p0 p1 l2 but d (i + 1) now
    else if ok now (l2.getD i z36).f1 (l2.getD i z36).f2 (l2.getD i z36).f3 (l2.getD i z36).f4 = true then
      (if (res p0 p1 now (l2.getD i z36).f1 (l2.getD i z36).f2 (l2.getD i z36).f3 (l2.getD i z36).f4).2 = 0 then rp p0 p1 l2 but d (i + 1) (res p0 p1 now (l2.getD i z36).f1 (l2.getD i z36).f2 (l2.getD i z36).f3 (l2.getD i z36).f4).1
        else some ([], (i : Int), (res p0 p1 now (l2.getD i z36).f1 (l2.getD i z36).f2 (l2.getD i z36).f3 (l2.getD i z36).f4).2))
    else none
end Ap
def spec_l06Replay.f (a0_0 a0_1 : Int) (l1 : List S71) (l2 : List S36) (a3 : Int) : Option (List S71 × Int × Int) := if l1.length ≤ 6 then Ap.rp a0_0 a0_1 l2 a3 l2.length 0 l1 else none
set_option maxHeartbeats 8000000 in
set_option maxRecDepth 100000 in
theorem spec_l06Replay.calls (a0_0 a0_1 : Int) (A1 : Option Addr) (c1 : Nat) (l1 : List S71) (A2 : Option Addr) (c2 : Nat) (l2 : List S36) (a3 : Int) (r1 : List S71) (r2 r3 : Int) (w : World) (hr1 : Kd.C k71 w A1 l1.length l1) (hc1 : l1.length ≤ c1) (hr2 : Kd.C k36 w A2 l2.length l2) (hc2 : l2.length ≤ c2) (h : spec_l06Replay.f a0_0 a0_1 l1 l2 a3 = some (r1, r2, r3)) :
    Calls Try.prog 58 #[.agg #[.int .i16 a0_0, .int .i16 a0_1], .slice A1 l1.length c1, .slice A2 l2.length c2, .int .i64 a3] w fun e w' => ∃ v : Value, e = .returned (.tuple #[v, .int .i64 r2, .int .i64 r3]) ∧ Kd.R k71 71 w' w.heap.size (fun _ => True) v r1 ∧ Below w.heap.size w w' := by
  unfold spec_l06Replay.f at h
  by_cases hl : l1.length ≤ 6
  case neg => rw [if_neg hl] at h; cases h
  rw [if_pos hl] at h
  have HH := Aside0.mk h
  have hbig : l2.length ≤ 9223372036854775807 := hr2.2.1
  have HR1 := Aside0.mk hr1
  have HR2 := Aside0.mk hr2
  clear h hr1 hr2
  have B0 : Aside0 (Below w.heap.size w (w.alloc (.cells #[.int .i16 a0_0, .int .i16 a0_1] 33))) := ⟨(Below.refl _ _).alloc (Nat.le_refl _) _⟩
  go_enter Try.func58, Try.ntmps58
  go_wp2_with (first | ((with_reducible refine gate_dst (N := 15) rfl ?_); (refine Kd.R_lit k71 _ 71 ?hg (N := 15) ?hd (xs := ([] : List S71)) (inner := []) (ok := fun _ => True) (okp := fun _ => True) ?hr ?hp (fun _ hk => hk) trivial (Below.refl _ _) (Nat.le_refl _) (by simp) ?_; (case hd => rfl); (case hg => rfl); (case hr => first | (go_simp; done) | (go_simp; rfl)); (case hp => exact (Reps.none _ _)); intro vl wl hol hbl hg_ hnew_; clear hg_ hnew_; have HOl := Aside0.mk hol; have HBl := Aside0.mk hbl; clear hol hbl)) | ((with_reducible refine gate_builtin (b := .append) (xs := #[.tmp 15, .tmp 16]) rfl ?_); at_builtin; refine Kd.R_append_rows k71 (w0 := (w.alloc (.cells #[.int .i16 a0_0, .int .i16 a0_1] 33))) (w.alloc (.cells #[.int .i16 a0_0, .int .i16 a0_1] 33)).heap.size rfl (.tmp 15) (.tmp 16) 30 71 (.agg #[.int .i64 0, .int .i64 0, .int .i64 0, .int .i64 0, .int .i64 0]) 40 rfl Try.underlying30 info71 rfl (by decide) (by omega) vl ([] : List S71) l1 _ _ _ (fun _ => True) (fun _ => False) rfl rfl ?aO ?aR (fun _ _ h => h) (fun _ h => h.elim) ?aF ?aB ?aS ?aL ?_; (case aR => exact Kd.C_below HR1.out (below_then B0.out B0.out.size HBl.out)); (case aB => exact HBl.out); (case aF => exact fun _ _ => trivial); (case aO => exact HOl.out); (case aS => exact HBl.out.size); (case aL => simp only [List.length_nil, Nat.zero_add]; omega); intro v466 w5 ho hb2 hg hat; clear hg hat; have HO := Aside0.mk (show Kd.R k71 71 w5 w.heap.size (fun _ => True) v466 l1 from Kd.R_lower ho B0.out.size); have HB := Aside0.mk (below_then B0.out B0.out.size hb2); have C0 := Aside0.mk (hb2.cell (p := ⟨w.heap.size, 0, none⟩) (by simp) |>.trans (show (w.alloc (.cells #[.int .i16 a0_0, .int .i16 a0_1] 33)).cell? ⟨w.heap.size, 0, none⟩ = some (.int .i16 a0_0) by simp)); have C1 := Aside0.mk (hb2.cell (p := ⟨w.heap.size, 1, none⟩) (by simp) |>.trans (show (w.alloc (.cells #[.int .i16 a0_0, .int .i16 a0_1] 33)).cell? ⟨w.heap.size, 1, none⟩ = some (.int .i16 a0_1) by simp)); clear ho hb2 HOl HBl))
  go_loopg [11, 12] l2.length (fun gg v11 v12 wr => ∃ (kk : Nat) (now : List S71), kk ≤ l2.length ∧ l2.length - kk ≤ gg ∧ v12 = .int .i64 kk ∧ Aside0 (Kd.R k71 71 wr w.heap.size (fun _ => True) v11 now) ∧ Aside0 (Below w.heap.size w wr) ∧ Aside0 (wr.cell? ⟨w.heap.size, 0, none⟩ = some (.int .i16 a0_0)) ∧ Aside0 (wr.cell? ⟨w.heap.size, 1, none⟩ = some (.int .i16 a0_1)) ∧ Aside0 (Ap.rp a0_0 a0_1 l2 a3 (l2.length - kk) kk now = some (r1, r2, r3)))
  case atStart => exact ⟨0, l1, Nat.zero_le _, by omega, rfl, HO, HB, C0, C1, HH⟩
  case round =>
    clear HH HO HB C0 C1 HR1
    obtain ⟨kk, now, hk, hgg, rfl, HO, HB, C0, C1, HH⟩ := hrel
    obtain ⟨AN, cn, rfl, hcn, hCN⟩ := Kd.R_reads HO.out
    have HCN := Aside0.mk hCN
    clear hCN
    have c0 := C0.out
    have c1_ := C1.out
    clear C0 C1
    by_cases hlt : kk < l2.length
    · have hlt' : (kk : Int) < (l2.length : Int) := by omega
      have H := HH.out
      clear HH
      rw [show l2.length - kk = (l2.length - (kk + 1)) + 1 by omega, Ap.rp] at H
      by_cases hb3 : (kk : Int) = a3
      · rw [if_pos hb3] at H
        have e1 : ((kk : Int) == a3) = true := beq_iff_eq.mpr hb3
        have HH := Aside0.mk H
        clear H hb3
        go_wp2
        go_roundg (l2.length - (kk + 1))
        case measure => omega
        case rel => exact ⟨kk + 1, now, by omega, by omega, by go_num, HO, HB, ⟨c0⟩, ⟨c1_⟩, HH⟩
      · rw [if_neg hb3] at H
        have e1 : ((kk : Int) == a3) = false := beq_eq_false_iff_ne.mpr hb3
        clear hb3
        obtain ⟨ad, rfl, x0, x1, x2, x3, x4⟩ := at_T36 HR2.out kk (by omega) (by omega)
        rw [Int.toNat_natCast] at x0 x1 x2 x3 x4
        have hy : rd_T36 l2 (kk : Int) = l2.getD kk z36 := rfl
        rw [hy] at x0 x1 x2 x3 x4
        clear hy
        replace x0 := pw_cell_below HB.out x0
        replace x1 := pw_cell_below HB.out x1
        replace x2 := pw_cell_below HB.out x2
        replace x3 := pw_cell_below HB.out x3
        replace x4 := pw_cell_below HB.out x4
        generalize l2.getD kk z36 = y at x0 x1 x2 x3 x4 H
        by_cases hok : Ap.ok now y.f1 y.f2 y.f3 y.f4 = true
        case neg => rw [if_neg hok] at H; cases H
        rw [if_pos hok] at H
        have HK := Lib.hid hok
        clear hok
        obtain ⟨⟨q1, q2⟩, hq⟩ : ∃ q, q = Ap.res a0_0 a0_1 now y.f1 y.f2 y.f3 y.f4 := ⟨_, rfl⟩
        rw [← hq] at H
        simp only at H
        have HQ := Lib.hid hq.symm
        clear hq
        by_cases hz : q2 = 0
        · subst hz
          rw [if_pos rfl] at H
          have HH := Aside0.mk H
          clear H
          go_wp2
          refine start_ (n := 11) (S := fun w' => w'.cell? ⟨w.heap.size, 0, none⟩ = some (.int .i16 a0_0) ∧ w'.cell? ⟨w.heap.size, 1, none⟩ = some (.int .i16 a0_1)) (ds := []) #[false, false, false, false, false, false, false, false, false, false, false] (by kernel_rfl) rfl rfl ⟨c0, c1_⟩ (fun hHeld => ?_)
          refine pure_ (i := 1) (N := some 29) (v := ?_) (a' := ?_) #[false, true, false, false, false, false, false, false, false, false, false] rfl rfl (by kernel_rfl) (fun _ _ _ h => h) (Or.inl ⟨by rfl, ?_⟩) ?_ ?_
          rotate_left
          · intro w'
            go_simp
            with_reducible rfl
          rotate_left
          · simp only [Act.put, List.setIfInBounds_toArray, List.set_cons_zero, List.set_cons_succ, i64_w, i32_w]
            rfl
          refine pure_ (i := 2) (N := some 30) (v := ?_) (a' := ?_) #[false, true, true, false, false, false, false, false, false, false, false] rfl rfl (by kernel_rfl) (fun _ _ _ h => h) (Or.inl ⟨by rfl, ?_⟩) ?_ ?_
          rotate_left
          · intro w'
            go_simp
            with_reducible rfl
          rotate_left
          · simp only [Act.put, List.setIfInBounds_toArray, List.set_cons_zero, List.set_cons_succ, i64_w, i32_w]
            rfl
          refine pure_ (i := 3) (N := some 31) (v := ?_) (a' := ?_) #[false, true, true, true, false, false, false, false, false, false, false] rfl rfl (by kernel_rfl) (fun _ _ _ h => h) (Or.inl ⟨by rfl, ?_⟩) ?_ ?_
          rotate_left
          · intro w'
            go_simp
            with_reducible rfl
          rotate_left
          · simp only [Act.put, List.setIfInBounds_toArray, List.set_cons_zero, List.set_cons_succ, i64_w, i32_w]
            rfl
          refine pure_ (i := 4) (N := some 32) (v := ?_) (a' := ?_) #[false, true, true, true, true, false, false, false, false, false, false] rfl rfl (by kernel_rfl) (fun _ _ _ h => h) (Or.inl ⟨by rfl, ?_⟩) ?_ ?_
          rotate_left
          · intro w'
            go_simp
            with_reducible rfl
          rotate_left
          · simp only [Act.put, List.setIfInBounds_toArray, List.set_cons_zero, List.set_cons_succ, i64_w, i32_w]
            rfl
          refine take_ (i := 0) (N := some 28) (v := ?_) (a' := ?_) #[true, true, true, true, true, false, false, false, false, false, false] rfl rfl (by kernel_rfl) (fun _ _ _ h => h) (Or.inl ⟨by rfl, ?_⟩) hHeld ?_ ?_
          rotate_left
          · rintro w' ⟨s0, s1⟩
            go_simp
            with_reducible rfl
          rotate_left
          · simp only [Act.put, List.setIfInBounds_toArray, List.set_cons_zero, List.set_cons_succ, i64_w, i32_w]
            rfl
          refine one_ (i := 5) (N := some 33) #[true, true, true, true, true, true, false, false, false, false, false] rfl rfl (by kernel_rfl) (by decide) (fun K hK => ?_)
          refine goes_ Try.func40 (by kernel_rfl) rfl #[.agg #[.int .i16 a0_0, .int .i16 a0_1], .slice AN now.length cn, .pointer (some (ad.add (kk * 5)))] (by rfl) rfl rfl (by simp only [List.map_toArray, List.map_cons, List.map_nil]; rfl) ?_
          with_reducible refine (Ap.spec_at AN cn now a0_0 a0_1 (ad.add (kk * 5)) y.f1 y.f2 y.f3 y.f4 q1 0 _ (Kd.C_below HCN.out (below_drew1 (Below.refl _ _))) hcn (pw_cell_below (below_drew1 (Below.refl _ _)) x1) (pw_cell_below (below_drew1 (Below.refl _ _)) x2) (pw_cell_below (below_drew1 (Below.refl _ _)) x3) (pw_cell_below (below_drew1 (Below.refl _ _)) x4) HK.out HQ.out).mono ?_
          rintro e w3 ⟨v0, rfl, hRv, hb⟩
          refine ⟨_, rfl, ?_⟩
          refine hK.out _ _ ⟨pw_cell_below hb hHeld.1, pw_cell_below hb hHeld.2⟩ (fun hHeld => ?_)
          clear hK K
          refine norm_ (a' := ?_) ?_ ?_
          rotate_left
          · show Act.put _ (some 33) _ = _
            simp only [Act.put, List.setIfInBounds_toArray, List.set_cons_zero, List.set_cons_succ, i64_w, i32_w]
            rfl
          refine pure_ (i := 6) (N := some 27) (v := ?_) (a' := ?_) #[true, true, true, true, true, true, true, false, false, false, false] rfl rfl (by kernel_rfl) (fun _ _ _ h => h) (Or.inl ⟨by rfl, ?_⟩) ?_ ?_
          rotate_left
          · intro w'
            go_simp
            with_reducible rfl
          rotate_left
          · simp only [Act.put, List.setIfInBounds_toArray, List.set_cons_zero, List.set_cons_succ, i64_w, i32_w]
            rfl
          refine pure_ (i := 7) (N := some 34) (v := ?_) (a' := ?_) #[true, true, true, true, true, true, true, true, false, false, false] rfl rfl (by kernel_rfl) (fun _ _ _ h => h) (Or.inl ⟨by rfl, ?_⟩) ?_ ?_
          rotate_left
          · intro w'
            go_simp
            with_reducible rfl
          rotate_left
          · simp only [Act.put, List.setIfInBounds_toArray, List.set_cons_zero, List.set_cons_succ, i64_w, i32_w]
            rfl
          refine pure_ (i := 8) (N := some 35) (v := ?_) (a' := ?_) #[true, true, true, true, true, true, true, true, true, false, false] rfl rfl (by kernel_rfl) (fun _ _ _ h => h) (Or.inl ⟨by rfl, ?_⟩) ?_ ?_
          rotate_left
          · intro w'
            go_simp
            with_reducible rfl
          rotate_left
          · simp only [Act.put, List.setIfInBounds_toArray, List.set_cons_zero, List.set_cons_succ, i64_w, i32_w]
            rfl
          refine pure_ (i := 9) (N := some 13) (v := ?_) (a' := ?_) #[true, true, true, true, true, true, true, true, true, true, false] rfl rfl (by kernel_rfl) (fun _ _ _ h => h) (Or.inl ⟨by rfl, ?_⟩) ?_ ?_
          rotate_left
          · intro w'
            go_simp
            with_reducible rfl
          rotate_left
          · simp only [Act.put, List.setIfInBounds_toArray, List.set_cons_zero, List.set_cons_succ, i64_w, i32_w]
            rfl
          refine pure_ (i := 10) (N := some 14) (v := ?_) (a' := ?_) #[true, true, true, true, true, true, true, true, true, true, true] rfl rfl (by kernel_rfl) (fun _ _ _ h => h) (Or.inl ⟨by rfl, ?_⟩) ?_ ?_
          rotate_left
          · intro w'
            go_simp
            with_reducible rfl
          rotate_left
          · simp only [Act.put, List.setIfInBounds_toArray, List.set_cons_zero, List.set_cons_succ, i64_w, i32_w]
            rfl
          refine Ap.relet (F := fun w' => Below wr.heap.size wr w' ∧ Kd.R k71 71 w' wr.heap.size (fun _ => True) v0 q1) ⟨below_then (below_drew1 (Below.refl _ _)) (Nat.le_refl _) hb, hRv⟩ ?_
          rintro w4 ⟨hb4, hR4⟩
          clear hHeld hb hRv
          refine done_ (by kernel_rfl) ?_
          go_wp2
          go_roundg (l2.length - (kk + 1))
          case measure => omega
          case rel => exact ⟨kk + 1, q1, by omega, by omega, by go_num, ⟨Kd.R_lower hR4 HB.out.size⟩, ⟨below_then HB.out HB.out.size hb4⟩, ⟨pw_cell_below hb4 c0⟩, ⟨pw_cell_below hb4 c1_⟩, HH⟩
        · rw [if_neg hz] at H
          obtain ⟨rfl, h23⟩ := Prod.mk.inj (Option.some.inj H)
          obtain ⟨rfl, rfl⟩ := Prod.mk.inj h23
          clear H h23
          have hz1 : (q2 == 0) = false := beq_eq_false_iff_ne.mpr hz
          have hz2 : (q2 != 0) = true := bne_iff_ne.mpr hz
          clear hz
          go_wp2
          refine start_ (n := 11) (S := fun w' => w'.cell? ⟨w.heap.size, 0, none⟩ = some (.int .i16 a0_0) ∧ w'.cell? ⟨w.heap.size, 1, none⟩ = some (.int .i16 a0_1)) (ds := []) #[false, false, false, false, false, false, false, false, false, false, false] (by kernel_rfl) rfl rfl ⟨c0, c1_⟩ (fun hHeld => ?_)
          refine pure_ (i := 1) (N := some 29) (v := ?_) (a' := ?_) #[false, true, false, false, false, false, false, false, false, false, false] rfl rfl (by kernel_rfl) (fun _ _ _ h => h) (Or.inl ⟨by rfl, ?_⟩) ?_ ?_
          rotate_left
          · intro w'
            go_simp
            with_reducible rfl
          rotate_left
          · simp only [Act.put, List.setIfInBounds_toArray, List.set_cons_zero, List.set_cons_succ, i64_w, i32_w]
            rfl
          refine pure_ (i := 2) (N := some 30) (v := ?_) (a' := ?_) #[false, true, true, false, false, false, false, false, false, false, false] rfl rfl (by kernel_rfl) (fun _ _ _ h => h) (Or.inl ⟨by rfl, ?_⟩) ?_ ?_
          rotate_left
          · intro w'
            go_simp
            with_reducible rfl
          rotate_left
          · simp only [Act.put, List.setIfInBounds_toArray, List.set_cons_zero, List.set_cons_succ, i64_w, i32_w]
            rfl
          refine pure_ (i := 3) (N := some 31) (v := ?_) (a' := ?_) #[false, true, true, true, false, false, false, false, false, false, false] rfl rfl (by kernel_rfl) (fun _ _ _ h => h) (Or.inl ⟨by rfl, ?_⟩) ?_ ?_
          rotate_left
          · intro w'
            go_simp
            with_reducible rfl
          rotate_left
          · simp only [Act.put, List.setIfInBounds_toArray, List.set_cons_zero, List.set_cons_succ, i64_w, i32_w]
            rfl
          refine pure_ (i := 4) (N := some 32) (v := ?_) (a' := ?_) #[false, true, true, true, true, false, false, false, false, false, false] rfl rfl (by kernel_rfl) (fun _ _ _ h => h) (Or.inl ⟨by rfl, ?_⟩) ?_ ?_
          rotate_left
          · intro w'
            go_simp
            with_reducible rfl
          rotate_left
          · simp only [Act.put, List.setIfInBounds_toArray, List.set_cons_zero, List.set_cons_succ, i64_w, i32_w]
            rfl
          refine take_ (i := 0) (N := some 28) (v := ?_) (a' := ?_) #[true, true, true, true, true, false, false, false, false, false, false] rfl rfl (by kernel_rfl) (fun _ _ _ h => h) (Or.inl ⟨by rfl, ?_⟩) hHeld ?_ ?_
          rotate_left
          · rintro w' ⟨s0, s1⟩
            go_simp
            with_reducible rfl
          rotate_left
          · simp only [Act.put, List.setIfInBounds_toArray, List.set_cons_zero, List.set_cons_succ, i64_w, i32_w]
            rfl
          refine one_ (i := 5) (N := some 33) #[true, true, true, true, true, true, false, false, false, false, false] rfl rfl (by kernel_rfl) (by decide) (fun K hK => ?_)
          refine goes_ Try.func40 (by kernel_rfl) rfl #[.agg #[.int .i16 a0_0, .int .i16 a0_1], .slice AN now.length cn, .pointer (some (ad.add (kk * 5)))] (by rfl) rfl rfl (by simp only [List.map_toArray, List.map_cons, List.map_nil]; rfl) ?_
          with_reducible refine (Ap.spec_at AN cn now a0_0 a0_1 (ad.add (kk * 5)) y.f1 y.f2 y.f3 y.f4 q1 q2 _ (Kd.C_below HCN.out (below_drew1 (Below.refl _ _))) hcn (pw_cell_below (below_drew1 (Below.refl _ _)) x1) (pw_cell_below (below_drew1 (Below.refl _ _)) x2) (pw_cell_below (below_drew1 (Below.refl _ _)) x3) (pw_cell_below (below_drew1 (Below.refl _ _)) x4) HK.out HQ.out).mono ?_
          rintro e w3 ⟨v0, rfl, hRv, hb⟩
          refine ⟨_, rfl, ?_⟩
          refine hK.out _ _ ⟨pw_cell_below hb hHeld.1, pw_cell_below hb hHeld.2⟩ (fun hHeld => ?_)
          clear hK K
          refine norm_ (a' := ?_) ?_ ?_
          rotate_left
          · show Act.put _ (some 33) _ = _
            simp only [Act.put, List.setIfInBounds_toArray, List.set_cons_zero, List.set_cons_succ, i64_w, i32_w]
            rfl
          refine pure_ (i := 6) (N := some 27) (v := ?_) (a' := ?_) #[true, true, true, true, true, true, true, false, false, false, false] rfl rfl (by kernel_rfl) (fun _ _ _ h => h) (Or.inl ⟨by rfl, ?_⟩) ?_ ?_
          rotate_left
          · intro w'
            go_simp
            with_reducible rfl
          rotate_left
          · simp only [Act.put, List.setIfInBounds_toArray, List.set_cons_zero, List.set_cons_succ, i64_w, i32_w]
            rfl
          refine pure_ (i := 7) (N := some 34) (v := ?_) (a' := ?_) #[true, true, true, true, true, true, true, true, false, false, false] rfl rfl (by kernel_rfl) (fun _ _ _ h => h) (Or.inl ⟨by rfl, ?_⟩) ?_ ?_
          rotate_left
          · intro w'
            go_simp
            with_reducible rfl
          rotate_left
          · simp only [Act.put, List.setIfInBounds_toArray, List.set_cons_zero, List.set_cons_succ, i64_w, i32_w]
            rfl
          refine pure_ (i := 8) (N := some 35) (v := ?_) (a' := ?_) #[true, true, true, true, true, true, true, true, true, false, false] rfl rfl (by kernel_rfl) (fun _ _ _ h => h) (Or.inl ⟨by rfl, ?_⟩) ?_ ?_
          rotate_left
          · intro w'
            go_simp
            with_reducible rfl
          rotate_left
          · simp only [Act.put, List.setIfInBounds_toArray, List.set_cons_zero, List.set_cons_succ, i64_w, i32_w]
            rfl
          refine pure_ (i := 9) (N := some 13) (v := ?_) (a' := ?_) #[true, true, true, true, true, true, true, true, true, true, false] rfl rfl (by kernel_rfl) (fun _ _ _ h => h) (Or.inl ⟨by rfl, ?_⟩) ?_ ?_
          rotate_left
          · intro w'
            go_simp
            with_reducible rfl
          rotate_left
          · simp only [Act.put, List.setIfInBounds_toArray, List.set_cons_zero, List.set_cons_succ, i64_w, i32_w]
            rfl
          refine pure_ (i := 10) (N := some 14) (v := ?_) (a' := ?_) #[true, true, true, true, true, true, true, true, true, true, true] rfl rfl (by kernel_rfl) (fun _ _ _ h => h) (Or.inl ⟨by rfl, ?_⟩) ?_ ?_
          rotate_left
          · intro w'
            go_simp
            with_reducible rfl
          rotate_left
          · simp only [Act.put, List.setIfInBounds_toArray, List.set_cons_zero, List.set_cons_succ, i64_w, i32_w]
            rfl
          refine Ap.relet (F := fun w' => Below wr.heap.size wr w' ∧ Kd.R k71 71 w' wr.heap.size (fun _ => True) v0 q1) ⟨below_then (below_drew1 (Below.refl _ _)) (Nat.le_refl _) hb, hRv⟩ ?_
          rintro w4 ⟨hb4, hR4⟩
          clear hHeld hb hRv
          refine done_ (by kernel_rfl) ?_
          go_wp2_with (((with_reducible refine gate_dst (N := 38) rfl ?_); (refine Kd.R_lit k71 _ 71 ?hg (N := 38) ?hd (xs := ([] : List S71)) (inner := []) (ok := fun _ => True) (okp := fun _ => True) ?hr ?hp (fun _ hk => hk) trivial (Below.refl _ _) (Nat.le_refl _) (by simp) ?_; (case hd => rfl); (case hg => rfl); (case hr => first | (go_simp; done) | (go_simp; rfl)); (case hp => exact (Reps.none _ _)); intro vl wl hol hbl hg_ hnew_; clear hg_ hnew_; have HOl := Aside0.mk hol; have HBl := Aside0.mk hbl; clear hol hbl)))
          go_ret3
          exact ⟨_, rfl, Kd.R_lower HOl.out (Nat.le_trans HB.out.size hb4.size), below_then (below_then HB.out HB.out.size hb4) (Nat.le_trans HB.out.size hb4.size) HBl.out⟩
    · obtain rfl : kk = l2.length := by omega
      have H := HH.out
      clear HH
      rw [Nat.sub_self, Ap.rp] at H
      obtain ⟨rfl, h23⟩ := Prod.mk.inj (Option.some.inj H)
      obtain ⟨rfl, rfl⟩ := Prod.mk.inj h23
      clear H h23
      go_wp2
      go_ret3
      exact ⟨_, rfl, HO.out, HB.out⟩
end Go.Proofs.Ytncbgnlojabpfaa.G
