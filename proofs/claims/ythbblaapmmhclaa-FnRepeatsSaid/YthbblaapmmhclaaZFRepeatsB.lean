import Derived.Test.YthbblaapmmhclaaZPl
import Derived.Test.YthbblaapmmhclaaZFWalked
import Derived.RangeFuncBox
import Derived.Test.YthbblaapmmhclaaZG5
import Derived.Test.YthbblaapmmhclaaZG3
namespace Go.Proofs.Ythbblaapmmhclaa.G
open Go.RowKit Go.Proofs.YthbblaapmmhclaaW.PrintWords Go.Proofs.YthbblaapmmhclaaW.PrintLast Go.Proofs.YthbblaapmmhclaaW.PrintMore
attribute [local go_sem] max2_int min2_int max_two min_two max_three min_three max_four min_four
set_option linter.unusedVariables false
set_option linter.unusedSimpArgs false
open Go.Proofs.Ythbblaapmmhclaa.Wk Go.Proofs.Ythbblaapmmhclaa.Pl
namespace Rep
theorem reletC {P : Program} {c : Code} {Q : Exit → Act → World → Prop} {a : Act} {W : World} (F : World → Prop) (hF : F W) (h : ∀ w', F w' → Code.wp P c Q a w') : Code.wp P c Q a W := h W hF
theorem reletE {K : Act → World → Prop} {Q : Exit → Act → World → Prop} {e : Exit} {a : Act} {W : World} (F : World → Prop) (hF : F W) (h : ∀ w', F w' → Exit.then K Q e a w') : Exit.then K Q e a W := h W hF
theorem reletI {n : Nat} {K : Exit → Act → World → Prop} {e : Exit} {a : Act} {W : World} (F : World → Prop) (hF : F W) (h : ∀ w', F w' → Exit.inBlock n K e a w') : Exit.inBlock n K e a W := h W hF
abbrev W := S53
def repC (kk every : Int) : CntF := fun _ f1 _ _ _ _ => if wrap64 f1 = 0 then none else some (wrap64 (Int.tdiv (wrap64 (kk * every)) (wrap64 f1)))
set_option maxHeartbeats 1000000 in
theorem clo (kk every : Int) (a b : Addr) (w0 : World) (ha : w0.cell? a = some (.int .i64 kk)) (hb : w0.cell? b = some (.int .i64 every)) : ClosOk (repC kk every) 105 #[.pointer (some a), .pointer (some b)] w0 := by
  intro f0 f1 f2 f3 f4 f5 t ht W hW
  have ha1 := pw_cell_below hW ha
  have hb1 := pw_cell_below hW hb
  have hB : Below W.heap.size W (W.alloc (.cells #[.int .i16 f0, .int .i16 f1, .int .i16 f2, .int .i16 f3, .int .i16 f4, .int .i8 f5] 53)) := (Below.refl _ _).alloc (Nat.le_refl _) _
  have ha2 := pw_cell_below hB ha1
  have hb2 := pw_cell_below hB hb1
  have Hb := Lib.hid hB
  unfold repC at ht
  by_cases hz : wrap64 f1 = 0
  · rw [if_pos hz] at ht; cases ht
  · rw [if_neg hz] at ht
    obtain rfl := Option.some.inj ht
    have hz2 : (wrap64 f1 == 0) = false := beq_eq_false_iff_ne.mpr hz
    clear ht ha hb ha1 hb1 hB hW; go_enter Try.func105, Try.ntmps105
    go_wp2
    go_ret
    exact ⟨rfl, Hb.out⟩
def l0 : Nat → Int → List W → Int → Int → Option (Int × Int)
  | 0, _, _, _, _ => none
  | k + 1, n, l, every, kk => (impl_walked.f k (List.replicate n.toNat 0) l (repC kk every)).bind fun t => (impl_Row_uint8_81.f k (List.replicate n.toNat 0) t).bind fun b => if b = true then some (wrap64 (kk * every), 0) else l0 k n l every (wrap64 (kk + 1))
theorem l0_mono : ∀ k n l every kk, LeO (l0 k n l every kk) (l0 (k + 1) n l every kk)
  | 0, _, _, _, _ => LeO.none _
  | k + 1, n, l, every, kk => by
    unfold l0
    refine LeO.bind (impl_walked.mono _ _ _ _) (fun t => LeO.bind (impl_Row_uint8_81.mono _ _ _) (fun b => ?_))
    by_cases h : b = true
    · rw [if_pos h, if_pos h]; exact LeO.refl _
    · rw [if_neg h, if_neg h]; exact l0_mono k n l every _
end Rep
open Rep
def impl_RepeatsBehind.f (k : Nat) (a0 : Int) (l1 : List W) : Option (Int × Int) := (impl_AllWalkEvery.f k a0 l1).bind fun q => if q.2 = 0 then (if 0 ≤ a0 ∧ a0.toNat ≤ 1000000 then Rep.l0 k a0 l1 q.1 1 else none) else some (0, q.2)
theorem impl_RepeatsBehind.mono : ∀ a0 a1 k, LeO (impl_RepeatsBehind.f k a0 a1) (impl_RepeatsBehind.f (k + 1) a0 a1) := by
  intro a0 a1 k
  unfold impl_RepeatsBehind.f
  refine LeO.bind (impl_AllWalkEvery.mono _ _ _) (fun q => ?_)
  by_cases h : q.2 = 0
  · rw [if_pos h, if_pos h]
    by_cases h2 : 0 ≤ a0 ∧ a0.toNat ≤ 1000000
    · rw [if_pos h2, if_pos h2]; exact Rep.l0_mono _ _ _ _ _
    · rw [if_neg h2]; exact LeO.none _
  · rw [if_neg h, if_neg h]; exact LeO.refl _
set_option maxHeartbeats 8000000 in
set_option maxRecDepth 100000 in
theorem impl_RepeatsBehind.calls (k : Nat) (a0 : Int) (A1 : Option Addr) (c1 : Nat) (l1 : List W) (r1 : Int) (r2 : Int) (w : World) (hr1 : Kd.C k53 w A1 l1.length l1) (hc1 : l1.length ≤ c1) (h : impl_RepeatsBehind.f k a0 l1 = some (r1, r2)) :
    Calls Try.prog 52 #[.int .i64 a0, .slice A1 l1.length c1] w fun e w' => e = .returned (.tuple #[.int .i64 r1, .int .i64 r2]) ∧ Below w.heap.size w w' := by
  unfold impl_RepeatsBehind.f at h
  obtain ⟨⟨every, code⟩, hq, h⟩ := Option.bind_eq_some_iff.1 h
  have HQ := Lib.hid hq
  have HR1 := Aside0.mk hr1; clear hr1 hq; simp only at h
  by_cases hz : code = 0
  · rw [if_pos hz] at h
    subst hz; by_cases hn : 0 ≤ a0 ∧ a0.toNat ≤ 1000000
    case neg => rw [if_neg hn] at h; cases h
    rw [if_pos hn] at h
    obtain ⟨hn0, hn1⟩ := hn
    have HH := Lib.hid h
    clear h; have hn2 : decide (0 ≤ a0) = true := decide_eq_true hn0
    have hn3 : a0.toNat ≤ 140737488355327 := by omega
    go_enter Try.func52, Try.ntmps52
    go_wp2_with (first | (go_at_call 50; ((with_reducible refine (impl_AllWalkEvery.calls k a0 A1 c1 l1 every 0 _ HR1.out hc1 HQ.out).mono ?_); rintro e w1 ⟨rfl, hb1⟩; have B1 := Aside0.mk hb1; clear hb1)) | ((with_reducible refine gate_dst (N := 20) rfl ?_); refine Kd.R_make (Kd.int .u8) _ 5 rfl (N := 20) rfl 28 _ _ rfl a0 rfl rfl Try.underlying28 (.int .u8 0) 1 info5 rfl (by decide) (by omega) 0 (ok := fun _ => True) (okp := fun _ => True) rfl (fun _ hk => hk) trivial hn0 (by omega) (Below.refl _ _) (Nat.le_refl _) ?_; intro v8 w8 ho8 hb8 hg_ hnew_; clear hg_ hnew_; have X6 := Aside0.mk (show w8.cell? ⟨w1.heap.size, 0, none⟩ = some (.int .i64 every) from pw_cell_below hb8 (by simp)); have L6 := Aside0.mk (show w1.heap.size < w8.heap.size by have := hb8.size; simp at this; omega); have B8 := Aside0.mk (below_then (below_alloc B1.out _) (below_alloc B1.out _).size hb8); have R8 := Aside0.mk (Kd.R_lower (Kd.R_mono (ok' := fun q => q < w8.heap.size) (Kd.R_bound ho8) (fun _ hk => hk.2.2.1)) (below_alloc B1.out (.cells #[.int .i64 every] 2)).size); clear ho8 hb8 B1))
    obtain ⟨rep, hrep⟩ : ∃ rep, rep = List.replicate a0.toNat (0 : Int) := ⟨_, rfl⟩
    rw [← hrep] at R8
    have HREP := Lib.hid hrep
    clear hrep; go_loopg [9] k (fun gg v9 wr => ∃ (g : Nat) (kk : Int), v9 = .pointer (some ⟨g, 0, none⟩) ∧ (w8.heap.size ≤ g ∧ g < wr.heap.size) ∧ Aside0 (Rep.l0 gg a0 l1 every kk = some (r1, r2)) ∧ wr.cell? ⟨g, 0, none⟩ = some (.int .i64 kk) ∧ wr.frozen? ⟨g, 0, none⟩ = false ∧ wr.cell? ⟨w1.heap.size, 0, none⟩ = some (.int .i64 every) ∧ Aside0 (Kd.R (Kd.int .u8) 5 wr w.heap.size (fun q => q < w8.heap.size) v8 rep) ∧ Aside0 (Below w.heap.size w wr))
    case atStart => exact ⟨w8.heap.size, 1, rfl, ⟨Nat.le_refl _, by simp⟩, ⟨HH.out⟩, by simp, by simp, pw_cell_below (Below.refl _ _ |>.alloc (Nat.le_refl _) _) X6.out, ⟨Kd.R_alloc R8.out _⟩, ⟨below_alloc B8.out _⟩⟩
    case round =>
      clear X6 R8 B8 HH; obtain ⟨g, kk, rfl, ⟨hg1, hg2⟩, HA, xg, fg, x6, R8, B8⟩ := hrel
      cases gk with
      | zero => exact absurd HA.out (by simp [Rep.l0])
      | succ gk =>
        have H := HA.out; clear HA; simp only [Rep.l0] at H
        rw [← HREP.out] at H
        obtain ⟨t, ht, H⟩ := Option.bind_eq_some_iff.1 H
        obtain ⟨b, hb, H⟩ := Option.bind_eq_some_iff.1 H
        have eg : ∀ args w, (callFunc 105 args).run Try.prog w = .ok (.enter 105 args) w := enters_of Try.func105 (by kernel_rfl) rfl
        obtain ⟨A8, c8, e8⟩ := Kd.R_slice R8.out
        subst e8; have hcon := impl_walked.calls gk A8 c8 rep A1 c1 l1 (repC kk every) 105 #[.pointer (some ⟨g, 0, none⟩), .pointer (some ⟨w1.heap.size, 0, none⟩)] t wr eg (clo kk every _ _ wr xg x6) (Kd.R_reads' R8.out).2.2 (Kd.R_reads' R8.out).2.1 (Kd.C_below HR1.out B8.out) hc1 ht
        have Hcon := Lib.hid hcon
        have Hb := Lib.hid hb
        clear hcon eg hb ht; cases b
        · have HH := Lib.hid (show Rep.l0 gk a0 l1 every (wrap64 (kk + 1)) = some (r1, r2) from H)
          clear H; go_upto_region 9 with (first | (go_at_call 79; ((with_reducible refine Hcon.out.mono ?_); rintro e w9 ⟨v9, rfl, hR9, hb9⟩; obtain ⟨A9, c9, e9⟩ := Kd.R_slice hR9; subst e9; have R9 := Aside0.mk hR9; have RR := Aside0.mk (Kd.R_below R8.out hb9); have BB := Aside0.mk (below_then B8.out B8.out.size hb9); have zz := Lib.hid hb9.size; replace xg := pw_cell_below hb9 xg; replace x6 := pw_cell_below hb9 x6; replace fg := (hb9.frozen (p := ⟨g, 0, none⟩) hg2).trans fg; clear hR9 hb9 R8 B8)) | (go_at_call 81; ((with_reducible refine (impl_Row_uint8_81.calls gk A8 c8 rep A9 c9 t false _ (Kd.R_reads' RR.out).2.2 (Kd.R_reads' RR.out).2.1 (Kd.R_reads' R9.out).2.2 (Kd.R_reads' R9.out).2.1 Hb.out).mono ?_); rintro e w10 ⟨rfl, ⟨nd, rfl⟩⟩)))
          first
            | refine reletE (F := fun w' => w'.cell? ⟨g, 0, none⟩ = some (.int .i64 kk) ∧ w'.frozen? ⟨g, 0, none⟩ = false ∧ w'.cell? ⟨w1.heap.size, 0, none⟩ = some (.int .i64 every) ∧ Kd.R (Kd.int .u8) 5 w' w.heap.size (fun q => q < w8.heap.size) (.slice A8 rep.length c8) rep ∧ Below w.heap.size w w' ∧ w8.heap.size ≤ w'.heap.size) ⟨by simpa using xg, by simpa using fg, by simpa using x6, Kd.R_drewN RR.out _, pw_below_drewN BB.out _, by have h_ := zz.out; show w8.heap.size ≤ w9.heap.size; omega⟩ ?_
            | refine reletI (F := fun w' => w'.cell? ⟨g, 0, none⟩ = some (.int .i64 kk) ∧ w'.frozen? ⟨g, 0, none⟩ = false ∧ w'.cell? ⟨w1.heap.size, 0, none⟩ = some (.int .i64 every) ∧ Kd.R (Kd.int .u8) 5 w' w.heap.size (fun q => q < w8.heap.size) (.slice A8 rep.length c8) rep ∧ Below w.heap.size w w' ∧ w8.heap.size ≤ w'.heap.size) ⟨by simpa using xg, by simpa using fg, by simpa using x6, Kd.R_drewN RR.out _, pw_below_drewN BB.out _, by have h_ := zz.out; show w8.heap.size ≤ w9.heap.size; omega⟩ ?_
            | refine reletC (F := fun w' => w'.cell? ⟨g, 0, none⟩ = some (.int .i64 kk) ∧ w'.frozen? ⟨g, 0, none⟩ = false ∧ w'.cell? ⟨w1.heap.size, 0, none⟩ = some (.int .i64 every) ∧ Kd.R (Kd.int .u8) 5 w' w.heap.size (fun q => q < w8.heap.size) (.slice A8 rep.length c8) rep ∧ Below w.heap.size w w' ∧ w8.heap.size ≤ w'.heap.size) ⟨by simpa using xg, by simpa using fg, by simpa using x6, Kd.R_drewN RR.out _, pw_below_drewN BB.out _, by have h_ := zz.out; show w8.heap.size ≤ w9.heap.size; omega⟩ ?_
          clear xg fg x6 RR BB R9 zz; rintro w11 ⟨xg, fg, x6, RR, BB, hz8⟩
          have RR := Aside0.mk RR; have BB := Aside0.mk BB; have Hz8 := Lib.hid hz8
          clear hz8; go_wp2
          go_roundg gk
          case measure => omega
          case rel => exact ⟨w11.heap.size, wrap64 (kk + 1), rfl, ⟨Hz8.out, by simp⟩, ⟨HH.out⟩, by simp, by simp, pw_cell_below ((Below.refl _ _).alloc (Nat.le_refl _) _) x6, ⟨Kd.R_alloc RR.out _⟩, ⟨below_alloc BB.out _⟩⟩
        · obtain ⟨rfl, rfl⟩ := Prod.mk.inj (Option.some.inj (show some (wrap64 (kk * every), (0 : Int)) = some (r1, r2) from H))
          clear H; go_wp2_with (first | (go_at_call 79; ((with_reducible refine Hcon.out.mono ?_); rintro e w9 ⟨v9, rfl, hR9, hb9⟩; obtain ⟨A9, c9, e9⟩ := Kd.R_slice hR9; subst e9; have R9 := Aside0.mk hR9; have RR := Aside0.mk (Kd.R_below R8.out hb9); have BB := Aside0.mk (below_then B8.out B8.out.size hb9); replace xg := pw_cell_below hb9 xg; replace x6 := pw_cell_below hb9 x6; replace fg := (hb9.frozen (p := ⟨g, 0, none⟩) hg2).trans fg; clear hR9 hb9 R8 B8)) | (go_at_call 81; ((with_reducible refine (impl_Row_uint8_81.calls gk A8 c8 rep A9 c9 t true _ (Kd.R_reads' RR.out).2.2 (Kd.R_reads' RR.out).2.1 (Kd.R_reads' R9.out).2.2 (Kd.R_reads' R9.out).2.1 Hb.out).mono ?_); rintro e w10 ⟨rfl, ⟨nd, rfl⟩⟩)))
          go_ret2
          exact ⟨rfl, pw_below_drewN BB.out _⟩
  · rw [if_neg hz] at h
    obtain ⟨rfl, rfl⟩ := Prod.mk.inj (Option.some.inj h)
    clear h; have hz1 : (code != 0) = true := bne_iff_ne.mpr hz
    have hz2 : (code == 0) = false := beq_eq_false_iff_ne.mpr hz
    clear hz; go_enter Try.func52, Try.ntmps52
    go_wp2_with (first | (go_at_call 50; ((with_reducible refine (impl_AllWalkEvery.calls k a0 A1 c1 l1 every code _ HR1.out hc1 HQ.out).mono ?_); rintro e w1 ⟨rfl, hb1⟩; have B1 := Aside0.mk hb1; clear hb1)))
    go_ret2
    exact ⟨rfl, below_alloc B1.out _⟩
end Go.Proofs.Ythbblaapmmhclaa.G
