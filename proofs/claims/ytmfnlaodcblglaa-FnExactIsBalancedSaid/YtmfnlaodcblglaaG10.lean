-- Written by wip/tools/xprint.py out of the translation. Lean checks it.
import Derived.Test.YtmfnlaodcblglaaG0
import Derived.Test.YtmfnlaodcblglaaG8
namespace Go.Proofs.Ytmfnlaodcblglaa.G
open Go.RowKit Go.Proofs.YtmfnlaodcblglaaW.PrintWords Go.Proofs.YtmfnlaodcblglaaW.PrintLast Go.Proofs.YtmfnlaodcblglaaW.PrintMore
attribute [local go_sem] max2_int min2_int max_two min_two max_three min_three max_four min_four   -- for this text's walks alone
set_option linter.unusedVariables false
set_option linter.unusedSimpArgs false

/-! ### spec_l07Pairs: function 73 -/
mutual
def spec_l07Pairs.l0 : Nat → Int → List (List Int) → List (List Int) → Int → Option ((List (List Int)))
  | 0, _, _, _, _ => none
  | k + 1, x0, x1, x5, x6 => if x6 < (x1.length : Int) then (spec_l07Pairs.l1 k x0 x1 x5 x6 0) else (some x5)
def spec_l07Pairs.l1 : Nat → Int → List (List Int) → List (List Int) → Int → Int → Option ((List (List Int)))
  | 0, _, _, _, _, _ => none
  | k + 1, x0, x1, x5, x6, x7 => if x7 < x0 then (spec_l07Pairs.l2 k x0 x1 x5 x6 x7 0) else (spec_l07Pairs.l0 k x0 x1 x5 (wrap64 (x6 + 1)))
def spec_l07Pairs.l2 : Nat → Int → List (List Int) → List (List Int) → Int → Int → Int → Option ((List (List Int)))
  | 0, _, _, _, _, _, _ => none
  | k + 1, x0, x1, x5, x6, x7, x8 => if x8 < x0 then (if 0 ≤ x6 then (if x6 < (x1.length : Int) then (if 0 ≤ x7 then (if x7 < ((rd_L1 x1 x6).length : Int) then (if 0 ≤ x8 then (if x8 < ((rd_L1 x1 x6).length : Int) then (if (rd (rd_L1 x1 x6) x7) > (rd (rd_L1 x1 x6) x8) then (if x7 < (x5.length : Int) then (if x8 < ((rd_L1 x5 x7).length : Int) then (spec_l07Pairs.l2 k x0 x1 (x5.set (x7 : Int).toNat ((rd_L1 x5 x7).set (x8 : Int).toNat (wrap64 ((rd (rd_L1 x5 x7) x8) + 1)))) x6 x7 (wrap64 (x8 + 1))) else (none)) else (none)) else (spec_l07Pairs.l2 k x0 x1 x5 x6 x7 (wrap64 (x8 + 1)))) else (none)) else (none)) else (none)) else (none)) else (none)) else (none)) else (spec_l07Pairs.l1 k x0 x1 x5 x6 (wrap64 (x7 + 1)))
end
def spec_l07Pairs.f (k : Nat) (a0 : Int) (l1 : List (List Int)) : Option ((List (List Int))) := (spec_l07Square.f k a0).bind fun t369 => (spec_l07Pairs.l0 k a0 l1 t369 0)
theorem spec_l07Pairs.mono_l : ∀ k, (∀ y0 y1 y2 y3, LeO (spec_l07Pairs.l0 k y0 y1 y2 y3) (spec_l07Pairs.l0 (k + 1) y0 y1 y2 y3)) ∧ (∀ y0 y1 y2 y3 y4, LeO (spec_l07Pairs.l1 k y0 y1 y2 y3 y4) (spec_l07Pairs.l1 (k + 1) y0 y1 y2 y3 y4)) ∧ (∀ y0 y1 y2 y3 y4 y5, LeO (spec_l07Pairs.l2 k y0 y1 y2 y3 y4 y5) (spec_l07Pairs.l2 (k + 1) y0 y1 y2 y3 y4 y5))
  | 0 => ⟨fun _ _ _ _ r h => by simp [spec_l07Pairs.l0] at h, fun _ _ _ _ _ r h => by simp [spec_l07Pairs.l1] at h, fun _ _ _ _ _ _ r h => by simp [spec_l07Pairs.l2] at h⟩
  | k + 1 => by
    obtain ⟨ih0, ih1, ih2⟩ := spec_l07Pairs.mono_l k
    refine ⟨?_, ?_, ?_⟩
    · intro y0 y1 y2 y3
      unfold spec_l07Pairs.l0
      repeat' first
      | (with_reducible exact ih0 _ _ _ _)
      | (with_reducible exact ih1 _ _ _ _ _)
      | (with_reducible exact ih2 _ _ _ _ _ _)
      | (with_reducible exact spec_l07Square.mono _ _)
      | (with_reducible exact LeO.refl _)
      | (with_reducible exact LeO.none _)
      | (with_reducible refine LeO.ite ?_ ?_)
      | (with_reducible refine LeO.bind ?_ (fun _ => ?_))
      | exact ih0 _ _ _ _
      | exact ih1 _ _ _ _ _
      | exact ih2 _ _ _ _ _ _
      | exact spec_l07Square.mono _ _
      | exact LeO.none _
      | refine LeO.ite ?_ ?_
      | refine LeO.bind ?_ (fun _ => ?_)
    · intro y0 y1 y2 y3 y4
      unfold spec_l07Pairs.l1
      repeat' first
      | (with_reducible exact ih0 _ _ _ _)
      | (with_reducible exact ih1 _ _ _ _ _)
      | (with_reducible exact ih2 _ _ _ _ _ _)
      | (with_reducible exact spec_l07Square.mono _ _)
      | (with_reducible exact LeO.refl _)
      | (with_reducible exact LeO.none _)
      | (with_reducible refine LeO.ite ?_ ?_)
      | (with_reducible refine LeO.bind ?_ (fun _ => ?_))
      | exact ih0 _ _ _ _
      | exact ih1 _ _ _ _ _
      | exact ih2 _ _ _ _ _ _
      | exact spec_l07Square.mono _ _
      | exact LeO.none _
      | refine LeO.ite ?_ ?_
      | refine LeO.bind ?_ (fun _ => ?_)
    · intro y0 y1 y2 y3 y4 y5
      unfold spec_l07Pairs.l2
      repeat' first
      | (with_reducible exact ih0 _ _ _ _)
      | (with_reducible exact ih1 _ _ _ _ _)
      | (with_reducible exact ih2 _ _ _ _ _ _)
      | (with_reducible exact spec_l07Square.mono _ _)
      | (with_reducible exact LeO.refl _)
      | (with_reducible exact LeO.none _)
      | (with_reducible refine LeO.ite ?_ ?_)
      | (with_reducible refine LeO.bind ?_ (fun _ => ?_))
      | exact ih0 _ _ _ _
      | exact ih1 _ _ _ _ _
      | exact ih2 _ _ _ _ _ _
      | exact spec_l07Square.mono _ _
      | exact LeO.none _
      | refine LeO.ite ?_ ?_
      | refine LeO.bind ?_ (fun _ => ?_)
theorem spec_l07Pairs.mono : ∀ a0 a1 k, LeO (spec_l07Pairs.f k a0 a1) (spec_l07Pairs.f (k + 1) a0 a1) := by
  intro a0 a1 k
  obtain ⟨ih0, ih1, ih2⟩ := spec_l07Pairs.mono_l k
  unfold spec_l07Pairs.f
  repeat' first
      | (with_reducible exact ih0 _ _ _ _)
      | (with_reducible exact ih1 _ _ _ _ _)
      | (with_reducible exact ih2 _ _ _ _ _ _)
      | (with_reducible exact spec_l07Square.mono _ _)
      | (with_reducible exact LeO.refl _)
      | (with_reducible exact LeO.none _)
      | (with_reducible refine LeO.ite ?_ ?_)
      | (with_reducible refine LeO.bind ?_ (fun _ => ?_))
      | exact ih0 _ _ _ _
      | exact ih1 _ _ _ _ _
      | exact ih2 _ _ _ _ _ _
      | exact spec_l07Square.mono _ _
      | exact LeO.none _
      | refine LeO.ite ?_ ?_
      | refine LeO.bind ?_ (fun _ => ?_)
set_option maxHeartbeats 8000000 in
set_option maxRecDepth 100000 in
theorem spec_l07Pairs.calls (k : Nat) (a0 : Int) (A1 : Option Addr) (c1 : Nat) (l1 : List (List Int)) (r : List (List Int)) (w : World) (hr1 : Kd.C (Kd.slice 2 (Kd.int .i64)) w A1 l1.length l1) (hc1 : l1.length ≤ c1) (h : spec_l07Pairs.f k a0 l1 = some r) :
    Calls Try.prog 73 #[.int .i64 a0, .slice A1 l1.length c1] w fun e w' => ∃ v0_ : Value, e = .returned (v0_) ∧ Kd.S (Kd.slice 2 (Kd.int .i64)) 22 w' w.heap.size (fun _ => True) v0_ r ∧ Below w.heap.size w w' := by
  have HR1 := Aside0.mk hr1
  have HC1 := Aside0.mk hc1
  clear hr1 hc1
  have HB := Aside0.mk (Below.refl w.heap.size w)
  have H : ((spec_l07Square.f k a0).bind fun t369 => (spec_l07Pairs.l0 k a0 l1 t369 0)) = some r := h
  clear h
  replace H := Option.bind_eq_some_iff.mp H
  obtain ⟨t369, A30, H⟩ := H
  replace H : (spec_l07Pairs.l0 k a0 l1 t369 0) = some r := H
  have A3 := Aside0.mk A30
  clear A30
  have H' := Aside0.mk H
  clear H
  go_enter Try.func73, Try.ntmps73
  go_wp2_with (first | (go_at_call 86; (with_reducible refine (spec_l07Square.calls k a0 t369 _ A3.out).mono ?_); rintro e w4 ⟨v370, rfl, ho0, hb⟩; have n0_ := Aside0.mk (Kd.S_lower ho0 (below_size (by repeat (first | (with_reducible first | exact HB.out | apply below_alloc | apply pw_below_drewN | apply below_drew1) | exact HB.out)))); have n1_ := Aside0.mk (below_step (by repeat (first | (with_reducible first | exact HB.out | apply below_alloc | apply pw_below_drewN | apply below_drew1) | exact HB.out)) hb); clear HB; have HO371 := n0_; have HB := n1_; clear n0_ n1_; (try clear hb); (try clear hb2); (try clear hk); (try clear hi); (try clear ho0)))
  repeat (go_quiet (first | (go_at_call 86; (with_reducible refine (spec_l07Square.calls k a0 t369 _ A3.out).mono ?_); rintro e w4 ⟨v370, rfl, ho0, hb⟩; have n0_ := Aside0.mk (Kd.S_lower ho0 (below_size (by repeat (first | (with_reducible first | exact HB.out | apply below_alloc | apply pw_below_drewN | apply below_drew1) | exact HB.out)))); have n1_ := Aside0.mk (below_step (by repeat (first | (with_reducible first | exact HB.out | apply below_alloc | apply pw_below_drewN | apply below_drew1) | exact HB.out)) hb); clear HB; have HO371 := n0_; have HB := n1_; clear n0_ n1_; (try clear hb); (try clear hb2); (try clear hk); (try clear hi); (try clear ho0))); try go_wp2_with (first | (go_at_call 86; (with_reducible refine (spec_l07Square.calls k a0 t369 _ A3.out).mono ?_); rintro e w4 ⟨v370, rfl, ho0, hb⟩; have n0_ := Aside0.mk (Kd.S_lower ho0 (below_size (by repeat (first | (with_reducible first | exact HB.out | apply below_alloc | apply pw_below_drewN | apply below_drew1) | exact HB.out)))); have n1_ := Aside0.mk (below_step (by repeat (first | (with_reducible first | exact HB.out | apply below_alloc | apply pw_below_drewN | apply below_drew1) | exact HB.out)) hb); clear HB; have HO371 := n0_; have HB := n1_; clear n0_ n1_; (try clear hb); (try clear hb2); (try clear hk); (try clear hi); (try clear ho0))))
  go_loopg [6] k (fun kq v6 w' => ∃ (x5_1 : List (List Int)) (x6_1 : Int), v6 = .int .i64 x6_1 ∧ Aside0 (spec_l07Pairs.l0 kq a0 l1 x5_1 x6_1 = some r) ∧ Aside0 (kq ≤ k) ∧ Aside0 (Kd.S (Kd.slice 2 (Kd.int .i64)) 22 w' w.heap.size (fun _ => True) v370 x5_1) ∧ Aside0 (Below w.heap.size w w'))
  case atStart => exact ⟨(t369), (0), (by first | rfl | (simp; done) | (simp [*]; done)), H', ⟨Nat.le_refl _⟩, ⟨by (with_reducible repeat (first | apply Kd.S_alloc | apply Kd.S_drewN | apply Kd.S_drew)); exact HO371.out⟩, ⟨by repeat (first | (with_reducible first | exact HB.out | apply below_alloc | apply pw_below_drewN | apply below_drew1) | exact HB.out)⟩⟩
  case round =>
    clear H'
    try clear c1
    try clear p2
    obtain ⟨x5_1, x6_1, rfl, HA, HK1, HO_5, HB⟩ := hrel
    cases gk with
    | zero => exact absurd HA.out (by simp [spec_l07Pairs.l0])
    | succ k1 =>
      have H := HA.out
      clear HA
      simp only [spec_l07Pairs.l0] at H
      by_cases c5 : x6_1 < (l1.length : Int)
      · rw [if_pos c5] at H
        have c5b0 : decide (x6_1 < (l1.length : Int)) = true := decide_eq_true c5
        clear c5
        have H' := Aside0.mk H
        clear H
        go_wp2
        repeat (go_quiet (fail); try go_wp2)
        go_loopg [7] k1 (fun kq v7 w' => ∃ (x5_2 : List (List Int)) (x7_2 : Int), v7 = .int .i64 x7_2 ∧ Aside0 (spec_l07Pairs.l1 kq a0 l1 x5_2 x6_1 x7_2 = some r) ∧ Aside0 (kq ≤ k1) ∧ Aside0 (Kd.S (Kd.slice 2 (Kd.int .i64)) 22 w' w.heap.size (fun _ => True) v370 x5_2) ∧ Aside0 (Below w.heap.size w w'))
        case atStart => exact ⟨(x5_1), (0), (by first | rfl | (simp; done) | (simp [*]; done)), H', ⟨Nat.le_refl _⟩, ⟨by (with_reducible repeat (first | apply Kd.S_alloc | apply Kd.S_drewN | apply Kd.S_drew)); exact HO_5.out⟩, ⟨by repeat (first | (with_reducible first | exact HB.out | apply below_alloc | apply pw_below_drewN | apply below_drew1) | exact HB.out)⟩⟩
        case round =>
          clear H'
          try clear c1
          try clear p2
          try clear c5
          try clear c5b0
          try clear p2
          obtain ⟨x5_2, x7_2, rfl, HA, HK2, HO_5, HB⟩ := hrel
          cases gk with
          | zero => exact absurd HA.out (by simp [spec_l07Pairs.l1])
          | succ k2 =>
            have H := HA.out
            clear HA
            simp only [spec_l07Pairs.l1] at H
            by_cases c6 : x7_2 < a0
            · rw [if_pos c6] at H
              have c6b0 : decide (x7_2 < a0) = true := decide_eq_true c6
              clear c6
              have H' := Aside0.mk H
              clear H
              go_wp2
              repeat (go_quiet (fail); try go_wp2)
              go_loopg [8] k2 (fun kq v8 w' => ∃ (x5_3 : List (List Int)) (x8_3 : Int), v8 = .int .i64 x8_3 ∧ Aside0 (spec_l07Pairs.l2 kq a0 l1 x5_3 x6_1 x7_2 x8_3 = some r) ∧ Aside0 (kq ≤ k2) ∧ Aside0 (Kd.S (Kd.slice 2 (Kd.int .i64)) 22 w' w.heap.size (fun _ => True) v370 x5_3) ∧ Aside0 (Below w.heap.size w w'))
              case atStart => exact ⟨(x5_2), (0), (by first | rfl | (simp; done) | (simp [*]; done)), H', ⟨Nat.le_refl _⟩, ⟨by (with_reducible repeat (first | apply Kd.S_alloc | apply Kd.S_drewN | apply Kd.S_drew)); exact HO_5.out⟩, ⟨by repeat (first | (with_reducible first | exact HB.out | apply below_alloc | apply pw_below_drewN | apply below_drew1) | exact HB.out)⟩⟩
              case round =>
                clear H'
                try clear c1
                try clear p2
                try clear c5
                try clear c5b0
                try clear c6
                try clear c6b0
                try clear p2
                obtain ⟨x5_3, x8_3, rfl, HA, HK3, HO_5, HB⟩ := hrel
                cases gk with
                | zero => exact absurd HA.out (by simp [spec_l07Pairs.l2])
                | succ k3 =>
                  have H := HA.out
                  clear HA
                  simp only [spec_l07Pairs.l2] at H
                  by_cases c7 : x8_3 < a0
                  · rw [if_pos c7] at H
                    have c7b0 : decide (x8_3 < a0) = true := decide_eq_true c7
                    clear c7
                    by_cases c8 : 0 ≤ x6_1
                    · rw [if_pos c8] at H
                      have c8b0 : decide (0 ≤ x6_1) = true := decide_eq_true c8
                      clear c8
                      by_cases c9 : x6_1 < (l1.length : Int)
                      · rw [if_pos c9] at H
                        have c9b0 : decide (x6_1 < (l1.length : Int)) = true := decide_eq_true c9
                        clear c9
                        by_cases c10 : 0 ≤ x7_2
                        · rw [if_pos c10] at H
                          have c10b0 : decide (0 ≤ x7_2) = true := decide_eq_true c10
                          clear c10
                          by_cases c11 : x7_2 < ((rd_L1 l1 x6_1).length : Int)
                          · rw [if_pos c11] at H
                            have c11b0 : decide (x7_2 < ((rd_L1 l1 x6_1).length : Int)) = true := decide_eq_true c11
                            clear c11
                            by_cases c12 : 0 ≤ x8_3
                            · rw [if_pos c12] at H
                              have c12b0 : decide (0 ≤ x8_3) = true := decide_eq_true c12
                              clear c12
                              by_cases c13 : x8_3 < ((rd_L1 l1 x6_1).length : Int)
                              · rw [if_pos c13] at H
                                have c13b0 : decide (x8_3 < ((rd_L1 l1 x6_1).length : Int)) = true := decide_eq_true c13
                                clear c13
                                by_cases c14 : (rd (rd_L1 l1 x6_1) x7_2) > (rd (rd_L1 l1 x6_1) x8_3)
                                · rw [if_pos c14] at H
                                  have c14b0 : decide ((rd (rd_L1 l1 x6_1) x8_3) < (rd (rd_L1 l1 x6_1) x7_2)) = true := decide_eq_true c14
                                  clear c14
                                  by_cases c15 : x7_2 < (x5_3.length : Int)
                                  · rw [if_pos c15] at H
                                    have c15b0 : decide (x7_2 < (x5_3.length : Int)) = true := decide_eq_true c15
                                    clear c15
                                    by_cases c16 : x8_3 < ((rd_L1 x5_3 x7_2).length : Int)
                                    · rw [if_pos c16] at H
                                      have c16b0 : decide (x8_3 < ((rd_L1 x5_3 x7_2).length : Int)) = true := decide_eq_true c16
                                      clear c16
                                      obtain ⟨y378, hy378⟩ : ∃ y_ : List Int, y_ = ((rd_L1 x5_3 x7_2).set (x8_3 : Int).toNat (wrap64 ((rd (rd_L1 x5_3 x7_2) x8_3) + 1))) := ⟨_, rfl⟩
                                      replace H : (spec_l07Pairs.l2 k3 a0 l1 (x5_3.set (x7_2 : Int).toNat y378) x6_1 x7_2 (wrap64 (x8_3 + 1))) = some r := by first | (rw [hy378]; with_reducible exact H) | (have H2_ := (Option.bind_some _ _).symm.trans H; rw [hy378]; with_reducible exact H2_) | (have H2_ := (Option.bind_some _ _).symm.trans H; with_reducible exact H2_) | with_reducible exact H | (rw [hy378]; exact H) | exact H
                                      have Ny378 := Aside0.mk hy378
                                      clear hy378
                                      obtain ⟨y380, hy380⟩ : ∃ y_ : List (List Int), y_ = (x5_3.set (x7_2 : Int).toNat y378) := ⟨_, rfl⟩
                                      replace H : (spec_l07Pairs.l2 k3 a0 l1 y380 x6_1 x7_2 (wrap64 (x8_3 + 1))) = some r := by first | (rw [hy380]; with_reducible exact H) | (have H2_ := (Option.bind_some _ _).symm.trans H; rw [hy380]; with_reducible exact H2_) | (have H2_ := (Option.bind_some _ _).symm.trans H; with_reducible exact H2_) | with_reducible exact H | (rw [hy380]; exact H) | exact H
                                      have Ny380 := Aside0.mk hy380
                                      clear hy380
                                      have H' := Aside0.mk H
                                      clear H
                                      have p372 : 0 ≤ (x6_1 : Int) := of_decide_eq_true (by first | (with_reducible assumption) | assumption)
                                      have q372 : x6_1 < (l1.length : Int) := of_decide_eq_true (by first | (with_reducible assumption) | assumption)
                                      obtain ⟨ad372, A372_0, c372_0, e372, hx372_0, hl372_0, hi372_0⟩ := at_L1 HR1.out x6_1 p372 q372
                                      cases e372
                                      (try replace hx372_0 := (HB.out.cell (World.block_lt_of_cell? w _ hx372_0)).trans hx372_0)
                                      have HR372_0 := Aside0.mk hi372_0
                                      have HC372_0 := Aside0.mk hl372_0
                                      clear hi372_0 hl372_0
                                      replace p372 := eq_true p372
                                      replace q372 := eq_true q372
                                      have p373 : 0 ≤ (x7_2 : Int) := of_decide_eq_true (by first | (with_reducible assumption) | assumption)
                                      have q373 : x7_2 < ((rd_L1 l1 x6_1).length : Int) := of_decide_eq_true (by first | (with_reducible assumption) | assumption)
                                      obtain ⟨ad373, e373, hx373_0⟩ := Kd.at_int HR372_0.out x7_2 p373 q373
                                      cases e373
                                      (try replace hx373_0 := (HB.out.cell (World.block_lt_of_cell? w _ hx373_0)).trans hx373_0)
                                      replace p373 := eq_true p373
                                      replace q373 := eq_true q373
                                      have p374 : 0 ≤ (x6_1 : Int) := of_decide_eq_true (by first | (with_reducible assumption) | assumption)
                                      have q374 : x6_1 < (l1.length : Int) := of_decide_eq_true (by first | (with_reducible assumption) | assumption)
                                      obtain ⟨ad374, A374_0, c374_0, e374, hx374_0, hl374_0, hi374_0⟩ := at_L1 HR1.out x6_1 p374 q374
                                      obtain rfl : ad372 = ad374 := (by injection e374)
                                      (try replace hx374_0 := (HB.out.cell (World.block_lt_of_cell? w _ hx374_0)).trans hx374_0)
                                      have HR374_0 := Aside0.mk hi374_0
                                      have HC374_0 := Aside0.mk hl374_0
                                      clear hi374_0 hl374_0
                                      replace p374 := eq_true p374
                                      replace q374 := eq_true q374
                                      have ea_ := Option.some.inj (hx372_0.symm.trans hx374_0)
                                      injection ea_ with ea_ en_ ec_
                                      subst ea_
                                      subst ec_
                                      clear en_
                                      have p375 : 0 ≤ (x8_3 : Int) := of_decide_eq_true (by first | (with_reducible assumption) | assumption)
                                      have q375 : x8_3 < ((rd_L1 l1 x6_1).length : Int) := of_decide_eq_true (by first | (with_reducible assumption) | assumption)
                                      obtain ⟨ad375, e375, hx375_0⟩ := Kd.at_int HR374_0.out x8_3 p375 q375
                                      cases e375
                                      (try replace hx375_0 := (HB.out.cell (World.block_lt_of_cell? w _ hx375_0)).trans hx375_0)
                                      replace p375 := eq_true p375
                                      replace q375 := eq_true q375
                                      obtain ⟨Ao18, co18, eo18⟩ := Kd.S_slice HO_5.out
                                      subst eo18
                                      have p376 : 0 ≤ (x7_2 : Int) := of_decide_eq_true (by first | (with_reducible assumption) | assumption)
                                      have q376 : x7_2 < (x5_3.length : Int) := of_decide_eq_true (by first | (with_reducible assumption) | assumption)
                                      obtain ⟨ad376, A376_0, c376_0, e376, hx376_0, hl376_0, hi376_0⟩ := at_L1 (Kd.S_reads' HO_5.out).2.2 x7_2 p376 q376
                                      cases e376
                                      obtain ⟨ce376, hce376, hMe376, hcc376⟩ := Kd.S_get HO_5.out [] x7_2 p376 (by first | exact q376 | exact of_decide_eq_true (by first | (with_reducible assumption) | assumption) | (have e_ := (Kd.S_reads' HO_5.out).1; omega))
                                      obtain ⟨ve376_0, rfl, ge376_0⟩ := hMe376
                                      have hv376_0 := hcc376 0 _ rfl
                                      rw [Nat.add_zero, show ((Kd.slice 2 (Kd.int .i64))).sz = 1 from rfl, Nat.mul_one] at hv376_0
                                      replace hv376_0 := Option.some.inj (hv376_0.symm.trans hx376_0)
                                      rw [hv376_0] at ge376_0
                                      have HL376_0 := Aside0.mk (show Kd.R (Kd.int .i64) 2 _ _ _ _ (rd_L1 x5_3 x7_2) from ge376_0)
                                      clear hv376_0 ge376_0
                                      have HX376_0 := Aside0.mk hx376_0
                                      clear hcc376 hce376
                                      have HR376_0 := Aside0.mk hi376_0
                                      have HC376_0 := Aside0.mk hl376_0
                                      clear hi376_0 hl376_0
                                      replace p376 := eq_true p376
                                      replace q376 := eq_true q376
                                      have p377 : 0 ≤ (x8_3 : Int) := of_decide_eq_true (by first | (with_reducible assumption) | assumption)
                                      have q377 : x8_3 < ((rd_L1 x5_3 x7_2).length : Int) := of_decide_eq_true (by first | (with_reducible assumption) | assumption)
                                      obtain ⟨ad377, e377, hx377_0⟩ := Kd.at_int (by repeat (first | (with_reducible exact HR376_0.out) | (with_reducible refine Kd.C_alloc ?_ _) | (with_reducible refine Kd.C_drewN ?_ _) | (with_reducible refine Kd.C_drew ?_) | exact HR376_0.out)) x8_3 p377 q377
                                      cases e377
                                      replace p377 := eq_true p377
                                      replace q377 := eq_true q377
                                      have p17 : 0 ≤ (x8_3 : Int) := of_decide_eq_true (by first | (with_reducible assumption) | assumption)
                                      have q17 : (x8_3 : Int) < (((rd_L1 x5_3 x7_2).length : Int) : Int) := of_decide_eq_true (by first | (with_reducible assumption) | assumption)
                                      obtain ⟨go17, co17, eo17, gb17, gl17, cl17, HG17⟩ := Kd.R_form HL376_0.out (by omega)
                                      (first | cases eo17 | (injection eo17 with ea_ en_ ec_; (first | subst ea_ | (injection ea_ with ea_; subst ea_)); subst ec_; clear en_))
                                      have GB17 := Aside0.mk gb17
                                      have GG17 := Aside0.mk HG17
                                      clear gb17 gl17 HG17
                                      (first | simp only [add_plain] at hx377_0 | skip)
                                      obtain ⟨hx17_0, hf17_0⟩ := Kd.R_celln 0 HL376_0.out (x8_3 : Int) p17 q17
                                      replace p17 := eq_true p17
                                      replace q17 := eq_true q17
                                      have hq19 : (x7_2 : Int) < (x5_3.length : Int) := (by have h_ : (x7_2 : Int) < ((x5_3.length : Int) : Int) := of_decide_eq_true (by first | (with_reducible assumption) | assumption); first | exact h_ | (have e_ := (Kd.S_reads' HO_5.out).1; omega) | simpa only [List.length_set, List.length_set] using h_)
                                      obtain ⟨oki19, ce19, hcl19, hM19, hcc19, hok19, hbk19⟩ := Kd.S_borrow HO_5.out [] (x7_2 : Int) (of_decide_eq_true (by first | (with_reducible assumption) | assumption)) hq19
                                      obtain ⟨ve19_0, rfl, ge19_0⟩ := hM19
                                      have hv19 := hcc19 0 _ rfl
                                      rw [Nat.add_zero, show ((Kd.slice 2 (Kd.int .i64))).sz = 1 from rfl, Nat.mul_one] at hv19
                                      replace hv19 := Option.some.inj (hv19.symm.trans HX376_0.out)
                                      subst hv19
                                      clear hcc19 hcl19
                                      replace ge19_0 := (show Kd.R (Kd.int .i64) 2 _ _ _ _ (rd_L1 x5_3 x7_2) from ge19_0)
                                      have HP19 := Kd.R_putg ge19_0 (x8_3 : Int) (wrap64 ((rd (rd_L1 x5_3 x7_2) x8_3) + 1))
                                      go_wp2_with (first | ((with_reducible refine gate_store (t := 2) (p := 50) rfl ?_); (try (rw [drewN_self wr]; generalize hq_ : World.drewN wr _ = wr; have n0_ := Aside0.mk (Kd.S_at hq_ HO_5.out); have n1_ := Aside0.mk (Kd.R_at hq_ HL376_0.out); have n2_ := Aside0.mk (below_at hq_ HB.out); (try (have nx_ := Aside0.mk (cell_at hq_ HX376_0.out); clear HX376_0; have HX376_0 := nx_; clear nx_)); clear hq_ HO_5 HL376_0 HB; have HO_5 := n0_; have HL376_0 := n1_; have HB := n2_; clear n0_ n1_ n2_; (try (obtain ⟨hx17_0, hf17_0⟩ := Kd.R_celln 0 HL376_0.out (x8_3 : Int) (of_eq_true p17) (of_eq_true q17))); (try (have hq19 : (x7_2 : Int) < (x5_3.length : Int) := (by have h_ : (x7_2 : Int) < ((x5_3.length : Int) : Int) := of_decide_eq_true (by first | (with_reducible assumption) | assumption); first | exact h_ | (have e_ := (Kd.S_reads' HO_5.out).1; omega) | simpa only [List.length_set, List.length_set] using h_))); (try (obtain ⟨oki19, ce19, hcl19, hM19, hcc19, hok19, hbk19⟩ := Kd.S_borrow HO_5.out [] (x7_2 : Int) (of_decide_eq_true (by first | (with_reducible assumption) | assumption)) hq19)); (try (obtain ⟨ve19_0, rfl, ge19_0⟩ := hM19)); (try (have hv19 := hcc19 0 _ rfl)); (try (rw [Nat.add_zero, show ((Kd.slice 2 (Kd.int .i64))).sz = 1 from rfl, Nat.mul_one] at hv19)); (try (replace hv19 := Option.some.inj (hv19.symm.trans HX376_0.out))); (try (subst hv19)); (try (clear hcc19 hcl19)); (try (replace ge19_0 := (show Kd.R (Kd.int .i64) 2 _ _ _ _ (rd_L1 x5_3 x7_2) from ge19_0))); (try (have HP19 := Kd.R_putg ge19_0 (x8_3 : Int) (wrap64 ((rd (rd_L1 x5_3 x7_2) x8_3) + 1)))))); refine store_event (t := 2) (p := 50) (v := ?vo_w20) (w1 := (wr.setCell ⟨go17, (x8_3 : Int).toNat, none⟩ (.int .i64 (wrap64 ((rd (rd_L1 x5_3 x7_2) x8_3) + 1))))) ?hg ?ho ?hn ?hr ?_; (case ho => rfl); (case hg => rfl); (case hn => rfl); (case hr => first | (go_simp; done) | (go_simp; rfl)); intro w20 hw; have hg : wr.grownBy w20 (some go17) := (by rw [hw]; exact HP19.2); have hz_ : Kd.R (Kd.int .i64) 2 w20 w.heap.size oki19 (.slice (some ⟨go17, 0, none⟩) (rd_L1 x5_3 x7_2).length c376_0) y378 := (by rw [hw, Ny378.out]; exact HP19.1); have hp_ : Kd.S (Kd.slice 2 (Kd.int .i64)) 22 w20 w.heap.size (fun _ => True) (.slice (some ad376) x5_3.length co18) y380 := (by rw [Ny380.out]; exact hbk19 hg (fun k_ e_ => by injection e_ with e_; subst e_; exact ge19_0.1 _ rfl) (Kd.M_row hz_)); have hm_ := Kd.R_mono hz_ hok19; clear HP19 hbk19; have n0_ := Aside0.mk (hp_); have n1_ := Aside0.mk ((by rw [hw]; exact below_set (HB.out) GB17.out : Below w.heap.size w w20)); have n2_ := Aside0.mk (hm_); have n3_ := Aside0.mk ((Kd.R_reads' hm_).2.1); clear HO_5; clear HB; clear HL376_0; have HO_5 := n0_; have HB := n1_; have HL381 := n2_; have HC379 := n3_; clear n0_ n1_ n2_ n3_; clear hg hw hp_ hz_ hm_ hok19))
                                      repeat (go_quiet (first | ((with_reducible refine gate_store (t := 2) (p := 50) rfl ?_); (try (rw [drewN_self wr]; generalize hq_ : World.drewN wr _ = wr; have n0_ := Aside0.mk (Kd.S_at hq_ HO_5.out); have n1_ := Aside0.mk (Kd.R_at hq_ HL376_0.out); have n2_ := Aside0.mk (below_at hq_ HB.out); (try (have nx_ := Aside0.mk (cell_at hq_ HX376_0.out); clear HX376_0; have HX376_0 := nx_; clear nx_)); clear hq_ HO_5 HL376_0 HB; have HO_5 := n0_; have HL376_0 := n1_; have HB := n2_; clear n0_ n1_ n2_; (try (obtain ⟨hx17_0, hf17_0⟩ := Kd.R_celln 0 HL376_0.out (x8_3 : Int) (of_eq_true p17) (of_eq_true q17))); (try (have hq19 : (x7_2 : Int) < (x5_3.length : Int) := (by have h_ : (x7_2 : Int) < ((x5_3.length : Int) : Int) := of_decide_eq_true (by first | (with_reducible assumption) | assumption); first | exact h_ | (have e_ := (Kd.S_reads' HO_5.out).1; omega) | simpa only [List.length_set, List.length_set] using h_))); (try (obtain ⟨oki19, ce19, hcl19, hM19, hcc19, hok19, hbk19⟩ := Kd.S_borrow HO_5.out [] (x7_2 : Int) (of_decide_eq_true (by first | (with_reducible assumption) | assumption)) hq19)); (try (obtain ⟨ve19_0, rfl, ge19_0⟩ := hM19)); (try (have hv19 := hcc19 0 _ rfl)); (try (rw [Nat.add_zero, show ((Kd.slice 2 (Kd.int .i64))).sz = 1 from rfl, Nat.mul_one] at hv19)); (try (replace hv19 := Option.some.inj (hv19.symm.trans HX376_0.out))); (try (subst hv19)); (try (clear hcc19 hcl19)); (try (replace ge19_0 := (show Kd.R (Kd.int .i64) 2 _ _ _ _ (rd_L1 x5_3 x7_2) from ge19_0))); (try (have HP19 := Kd.R_putg ge19_0 (x8_3 : Int) (wrap64 ((rd (rd_L1 x5_3 x7_2) x8_3) + 1)))))); refine store_event (t := 2) (p := 50) (v := ?vo_w20) (w1 := (wr.setCell ⟨go17, (x8_3 : Int).toNat, none⟩ (.int .i64 (wrap64 ((rd (rd_L1 x5_3 x7_2) x8_3) + 1))))) ?hg ?ho ?hn ?hr ?_; (case ho => rfl); (case hg => rfl); (case hn => rfl); (case hr => first | (go_simp; done) | (go_simp; rfl)); intro w20 hw; have hg : wr.grownBy w20 (some go17) := (by rw [hw]; exact HP19.2); have hz_ : Kd.R (Kd.int .i64) 2 w20 w.heap.size oki19 (.slice (some ⟨go17, 0, none⟩) (rd_L1 x5_3 x7_2).length c376_0) y378 := (by rw [hw, Ny378.out]; exact HP19.1); have hp_ : Kd.S (Kd.slice 2 (Kd.int .i64)) 22 w20 w.heap.size (fun _ => True) (.slice (some ad376) x5_3.length co18) y380 := (by rw [Ny380.out]; exact hbk19 hg (fun k_ e_ => by injection e_ with e_; subst e_; exact ge19_0.1 _ rfl) (Kd.M_row hz_)); have hm_ := Kd.R_mono hz_ hok19; clear HP19 hbk19; have n0_ := Aside0.mk (hp_); have n1_ := Aside0.mk ((by rw [hw]; exact below_set (HB.out) GB17.out : Below w.heap.size w w20)); have n2_ := Aside0.mk (hm_); have n3_ := Aside0.mk ((Kd.R_reads' hm_).2.1); clear HO_5; clear HB; clear HL376_0; have HO_5 := n0_; have HB := n1_; have HL381 := n2_; have HC379 := n3_; clear n0_ n1_ n2_ n3_; clear hg hw hp_ hz_ hm_ hok19)); try go_wp2_with (first | ((with_reducible refine gate_store (t := 2) (p := 50) rfl ?_); (try (rw [drewN_self wr]; generalize hq_ : World.drewN wr _ = wr; have n0_ := Aside0.mk (Kd.S_at hq_ HO_5.out); have n1_ := Aside0.mk (Kd.R_at hq_ HL376_0.out); have n2_ := Aside0.mk (below_at hq_ HB.out); (try (have nx_ := Aside0.mk (cell_at hq_ HX376_0.out); clear HX376_0; have HX376_0 := nx_; clear nx_)); clear hq_ HO_5 HL376_0 HB; have HO_5 := n0_; have HL376_0 := n1_; have HB := n2_; clear n0_ n1_ n2_; (try (obtain ⟨hx17_0, hf17_0⟩ := Kd.R_celln 0 HL376_0.out (x8_3 : Int) (of_eq_true p17) (of_eq_true q17))); (try (have hq19 : (x7_2 : Int) < (x5_3.length : Int) := (by have h_ : (x7_2 : Int) < ((x5_3.length : Int) : Int) := of_decide_eq_true (by first | (with_reducible assumption) | assumption); first | exact h_ | (have e_ := (Kd.S_reads' HO_5.out).1; omega) | simpa only [List.length_set, List.length_set] using h_))); (try (obtain ⟨oki19, ce19, hcl19, hM19, hcc19, hok19, hbk19⟩ := Kd.S_borrow HO_5.out [] (x7_2 : Int) (of_decide_eq_true (by first | (with_reducible assumption) | assumption)) hq19)); (try (obtain ⟨ve19_0, rfl, ge19_0⟩ := hM19)); (try (have hv19 := hcc19 0 _ rfl)); (try (rw [Nat.add_zero, show ((Kd.slice 2 (Kd.int .i64))).sz = 1 from rfl, Nat.mul_one] at hv19)); (try (replace hv19 := Option.some.inj (hv19.symm.trans HX376_0.out))); (try (subst hv19)); (try (clear hcc19 hcl19)); (try (replace ge19_0 := (show Kd.R (Kd.int .i64) 2 _ _ _ _ (rd_L1 x5_3 x7_2) from ge19_0))); (try (have HP19 := Kd.R_putg ge19_0 (x8_3 : Int) (wrap64 ((rd (rd_L1 x5_3 x7_2) x8_3) + 1)))))); refine store_event (t := 2) (p := 50) (v := ?vo_w20) (w1 := (wr.setCell ⟨go17, (x8_3 : Int).toNat, none⟩ (.int .i64 (wrap64 ((rd (rd_L1 x5_3 x7_2) x8_3) + 1))))) ?hg ?ho ?hn ?hr ?_; (case ho => rfl); (case hg => rfl); (case hn => rfl); (case hr => first | (go_simp; done) | (go_simp; rfl)); intro w20 hw; have hg : wr.grownBy w20 (some go17) := (by rw [hw]; exact HP19.2); have hz_ : Kd.R (Kd.int .i64) 2 w20 w.heap.size oki19 (.slice (some ⟨go17, 0, none⟩) (rd_L1 x5_3 x7_2).length c376_0) y378 := (by rw [hw, Ny378.out]; exact HP19.1); have hp_ : Kd.S (Kd.slice 2 (Kd.int .i64)) 22 w20 w.heap.size (fun _ => True) (.slice (some ad376) x5_3.length co18) y380 := (by rw [Ny380.out]; exact hbk19 hg (fun k_ e_ => by injection e_ with e_; subst e_; exact ge19_0.1 _ rfl) (Kd.M_row hz_)); have hm_ := Kd.R_mono hz_ hok19; clear HP19 hbk19; have n0_ := Aside0.mk (hp_); have n1_ := Aside0.mk ((by rw [hw]; exact below_set (HB.out) GB17.out : Below w.heap.size w w20)); have n2_ := Aside0.mk (hm_); have n3_ := Aside0.mk ((Kd.R_reads' hm_).2.1); clear HO_5; clear HB; clear HL376_0; have HO_5 := n0_; have HB := n1_; have HL381 := n2_; have HC379 := n3_; clear n0_ n1_ n2_ n3_; clear hg hw hp_ hz_ hm_ hok19)))
                                      go_roundg k3
                                      case measure => have := HK1.out; have := HK2.out; have := HK3.out; omega
                                      case rel => exact ⟨(y380), (wrap64 (x8_3 + 1)), (by first | rfl | (simp; done) | (simp [*]; done)), H', ⟨by have := HK1.out; have := HK2.out; have := HK3.out; omega⟩, ⟨by (with_reducible repeat (first | apply Kd.S_alloc | apply Kd.S_drewN | apply Kd.S_drew)); exact HO_5.out⟩, ⟨by repeat (first | (with_reducible first | exact HB.out | apply below_alloc | apply pw_below_drewN | apply below_drew1) | exact HB.out)⟩⟩
                                    · rw [if_neg c16] at H
                                      exact absurd H (by simp)
                                  · rw [if_neg c15] at H
                                    exact absurd H (by simp)
                                · rw [if_neg c14] at H
                                  have c14b0 : decide ((rd (rd_L1 l1 x6_1) x8_3) < (rd (rd_L1 l1 x6_1) x7_2)) = false := decide_eq_false c14
                                  clear c14
                                  have H' := Aside0.mk H
                                  clear H
                                  have p372 : 0 ≤ (x6_1 : Int) := of_decide_eq_true (by first | (with_reducible assumption) | assumption)
                                  have q372 : x6_1 < (l1.length : Int) := of_decide_eq_true (by first | (with_reducible assumption) | assumption)
                                  obtain ⟨ad372, A372_0, c372_0, e372, hx372_0, hl372_0, hi372_0⟩ := at_L1 HR1.out x6_1 p372 q372
                                  cases e372
                                  (try replace hx372_0 := (HB.out.cell (World.block_lt_of_cell? w _ hx372_0)).trans hx372_0)
                                  have HR372_0 := Aside0.mk hi372_0
                                  have HC372_0 := Aside0.mk hl372_0
                                  clear hi372_0 hl372_0
                                  replace p372 := eq_true p372
                                  replace q372 := eq_true q372
                                  have p373 : 0 ≤ (x7_2 : Int) := of_decide_eq_true (by first | (with_reducible assumption) | assumption)
                                  have q373 : x7_2 < ((rd_L1 l1 x6_1).length : Int) := of_decide_eq_true (by first | (with_reducible assumption) | assumption)
                                  obtain ⟨ad373, e373, hx373_0⟩ := Kd.at_int HR372_0.out x7_2 p373 q373
                                  cases e373
                                  (try replace hx373_0 := (HB.out.cell (World.block_lt_of_cell? w _ hx373_0)).trans hx373_0)
                                  replace p373 := eq_true p373
                                  replace q373 := eq_true q373
                                  have p374 : 0 ≤ (x6_1 : Int) := of_decide_eq_true (by first | (with_reducible assumption) | assumption)
                                  have q374 : x6_1 < (l1.length : Int) := of_decide_eq_true (by first | (with_reducible assumption) | assumption)
                                  obtain ⟨ad374, A374_0, c374_0, e374, hx374_0, hl374_0, hi374_0⟩ := at_L1 HR1.out x6_1 p374 q374
                                  obtain rfl : ad372 = ad374 := (by injection e374)
                                  (try replace hx374_0 := (HB.out.cell (World.block_lt_of_cell? w _ hx374_0)).trans hx374_0)
                                  have HR374_0 := Aside0.mk hi374_0
                                  have HC374_0 := Aside0.mk hl374_0
                                  clear hi374_0 hl374_0
                                  replace p374 := eq_true p374
                                  replace q374 := eq_true q374
                                  have ea_ := Option.some.inj (hx372_0.symm.trans hx374_0)
                                  injection ea_ with ea_ en_ ec_
                                  subst ea_
                                  subst ec_
                                  clear en_
                                  have p375 : 0 ≤ (x8_3 : Int) := of_decide_eq_true (by first | (with_reducible assumption) | assumption)
                                  have q375 : x8_3 < ((rd_L1 l1 x6_1).length : Int) := of_decide_eq_true (by first | (with_reducible assumption) | assumption)
                                  obtain ⟨ad375, e375, hx375_0⟩ := Kd.at_int HR374_0.out x8_3 p375 q375
                                  cases e375
                                  (try replace hx375_0 := (HB.out.cell (World.block_lt_of_cell? w _ hx375_0)).trans hx375_0)
                                  replace p375 := eq_true p375
                                  replace q375 := eq_true q375
                                  go_wp2
                                  repeat (go_quiet (fail); try go_wp2)
                                  go_roundg k3
                                  case measure => have := HK1.out; have := HK2.out; have := HK3.out; omega
                                  case rel => exact ⟨(x5_3), (wrap64 (x8_3 + 1)), (by first | rfl | (simp; done) | (simp [*]; done)), H', ⟨by have := HK1.out; have := HK2.out; have := HK3.out; omega⟩, ⟨by (with_reducible repeat (first | apply Kd.S_alloc | apply Kd.S_drewN | apply Kd.S_drew)); exact HO_5.out⟩, ⟨by repeat (first | (with_reducible first | exact HB.out | apply below_alloc | apply pw_below_drewN | apply below_drew1) | exact HB.out)⟩⟩
                              · rw [if_neg c13] at H
                                exact absurd H (by simp)
                            · rw [if_neg c12] at H
                              exact absurd H (by simp)
                          · rw [if_neg c11] at H
                            exact absurd H (by simp)
                        · rw [if_neg c10] at H
                          exact absurd H (by simp)
                      · rw [if_neg c9] at H
                        exact absurd H (by simp)
                    · rw [if_neg c8] at H
                      exact absurd H (by simp)
                  · rw [if_neg c7] at H
                    have c7b0 : decide (x8_3 < a0) = false := decide_eq_false c7
                    clear c7
                    have H' := Aside0.mk H
                    clear H
                    go_wp2
                    repeat (go_quiet (fail); try go_wp2)
                    go_roundg k3
                    case measure => have := HK1.out; have := HK2.out; have := HK3.out; omega
                    case rel => exact ⟨(x5_3), (wrap64 (x7_2 + 1)), (by first | rfl | (simp; done) | (simp [*]; done)), H', ⟨by have := HK1.out; have := HK2.out; have := HK3.out; omega⟩, ⟨by (with_reducible repeat (first | apply Kd.S_alloc | apply Kd.S_drewN | apply Kd.S_drew)); exact HO_5.out⟩, ⟨by repeat (first | (with_reducible first | exact HB.out | apply below_alloc | apply pw_below_drewN | apply below_drew1) | exact HB.out)⟩⟩
            · rw [if_neg c6] at H
              have c6b0 : decide (x7_2 < a0) = false := decide_eq_false c6
              clear c6
              have H' := Aside0.mk H
              clear H
              go_wp2
              repeat (go_quiet (fail); try go_wp2)
              go_roundg k2
              case measure => have := HK1.out; have := HK2.out; omega
              case rel => exact ⟨(x5_2), (wrap64 (x6_1 + 1)), (by first | rfl | (simp; done) | (simp [*]; done)), H', ⟨by have := HK1.out; have := HK2.out; omega⟩, ⟨by (with_reducible repeat (first | apply Kd.S_alloc | apply Kd.S_drewN | apply Kd.S_drew)); exact HO_5.out⟩, ⟨by repeat (first | (with_reducible first | exact HB.out | apply below_alloc | apply pw_below_drewN | apply below_drew1) | exact HB.out)⟩⟩
      · rw [if_neg c5] at H
        have c5b0 : decide (x6_1 < (l1.length : Int)) = false := decide_eq_false c5
        clear c5
        obtain rfl := Option.some.inj H
        go_wp2
        repeat (go_quiet (fail); try go_wp2)
        go_ret
        exact ⟨_, by first | rfl | (simp [errW_none, errW_some] <;> rfl) | (simp [*, errW_none, errW_some] <;> rfl), by (with_reducible repeat (first | apply Kd.S_alloc | apply Kd.S_drewN | apply Kd.S_drew)); exact HO_5.out, by repeat (first | (with_reducible first | exact HB.out | apply below_alloc | apply pw_below_drewN | apply below_drew1) | exact HB.out)⟩

/-! ### impl_pairs: function 75 -/
mutual
def impl_pairs.l0 : Nat → List (List Int) → List (List Int) → Int → Int → Option ((List (List Int)))
  | 0, _, _, _, _ => none
  | k + 1, x5, x14, x15, x16 => if x16 < x15 then (if 0 ≤ x16 then (if x16 < (x14.length : Int) then (impl_pairs.l1 k x5 (rd_L1 x14 x16) x14 x15 x16 (rd_L1 x14 x16) ((rd_L1 x14 x16).length : Int) 0) else (none)) else (none)) else (some x5)
def impl_pairs.l1 : Nat → List (List Int) → List Int → List (List Int) → Int → Int → List Int → Int → Int → Option ((List (List Int)))
  | 0, _, _, _, _, _, _, _, _ => none
  | k + 1, x5, x7, x14, x15, x16, x20, x21, x22 => if x22 < x21 then (if 0 ≤ x22 then (if x22 < (x20.length : Int) then (impl_pairs.l2 k x5 x7 x22 (rd x20 x22) x14 x15 x16 x20 x21 x22 x7 (x7.length : Int) 0) else (none)) else (none)) else (impl_pairs.l0 k x5 x14 x15 (wrap64 (x16 + 1)))
def impl_pairs.l2 : Nat → List (List Int) → List Int → Int → Int → List (List Int) → Int → Int → List Int → Int → Int → List Int → Int → Int → Option ((List (List Int)))
  | 0, _, _, _, _, _, _, _, _, _, _, _, _, _ => none
  | k + 1, x5, x7, x8, x9, x14, x15, x16, x20, x21, x22, x27, x28, x29 => if x29 < x28 then (if 0 ≤ x29 then (if x29 < (x27.length : Int) then (if x9 > (rd x27 x29) then (if 0 ≤ x8 then (if x8 < (x5.length : Int) then (if x29 < ((rd_L1 x5 x8).length : Int) then (impl_pairs.l2 k (x5.set (x8 : Int).toNat ((rd_L1 x5 x8).set (x29 : Int).toNat (wrap64 ((rd (rd_L1 x5 x8) x29) + 1)))) x7 x8 x9 x14 x15 x16 x20 x21 x22 x27 x28 (wrap64 (x29 + 1))) else (none)) else (none)) else (none)) else (impl_pairs.l2 k x5 x7 x8 x9 x14 x15 x16 x20 x21 x22 x27 x28 (wrap64 (x29 + 1)))) else (none)) else (none)) else (impl_pairs.l1 k x5 x7 x14 x15 x16 x20 x21 (wrap64 (x22 + 1)))
end
def impl_pairs.f (k : Nat) (a0 : Int) (l1 : List (List Int)) : Option ((List (List Int))) := (impl_table.f k a0).bind fun t400 => (impl_pairs.l0 k t400 l1 (l1.length : Int) 0)
theorem impl_pairs.mono_l : ∀ k, (∀ y0 y1 y2 y3, LeO (impl_pairs.l0 k y0 y1 y2 y3) (impl_pairs.l0 (k + 1) y0 y1 y2 y3)) ∧ (∀ y0 y1 y2 y3 y4 y5 y6 y7, LeO (impl_pairs.l1 k y0 y1 y2 y3 y4 y5 y6 y7) (impl_pairs.l1 (k + 1) y0 y1 y2 y3 y4 y5 y6 y7)) ∧ (∀ y0 y1 y2 y3 y4 y5 y6 y7 y8 y9 y10 y11 y12, LeO (impl_pairs.l2 k y0 y1 y2 y3 y4 y5 y6 y7 y8 y9 y10 y11 y12) (impl_pairs.l2 (k + 1) y0 y1 y2 y3 y4 y5 y6 y7 y8 y9 y10 y11 y12))
  | 0 => ⟨fun _ _ _ _ r h => by simp [impl_pairs.l0] at h, fun _ _ _ _ _ _ _ _ r h => by simp [impl_pairs.l1] at h, fun _ _ _ _ _ _ _ _ _ _ _ _ _ r h => by simp [impl_pairs.l2] at h⟩
  | k + 1 => by
    obtain ⟨ih0, ih1, ih2⟩ := impl_pairs.mono_l k
    refine ⟨?_, ?_, ?_⟩
    · intro y0 y1 y2 y3
      unfold impl_pairs.l0
      repeat' first
      | (with_reducible exact ih0 _ _ _ _)
      | (with_reducible exact ih1 _ _ _ _ _ _ _ _)
      | (with_reducible exact ih2 _ _ _ _ _ _ _ _ _ _ _ _ _)
      | (with_reducible exact impl_table.mono _ _)
      | (with_reducible exact LeO.refl _)
      | (with_reducible exact LeO.none _)
      | (with_reducible refine LeO.ite ?_ ?_)
      | (with_reducible refine LeO.bind ?_ (fun _ => ?_))
      | exact ih0 _ _ _ _
      | exact ih1 _ _ _ _ _ _ _ _
      | exact ih2 _ _ _ _ _ _ _ _ _ _ _ _ _
      | exact impl_table.mono _ _
      | exact LeO.none _
      | refine LeO.ite ?_ ?_
      | refine LeO.bind ?_ (fun _ => ?_)
    · intro y0 y1 y2 y3 y4 y5 y6 y7
      unfold impl_pairs.l1
      repeat' first
      | (with_reducible exact ih0 _ _ _ _)
      | (with_reducible exact ih1 _ _ _ _ _ _ _ _)
      | (with_reducible exact ih2 _ _ _ _ _ _ _ _ _ _ _ _ _)
      | (with_reducible exact impl_table.mono _ _)
      | (with_reducible exact LeO.refl _)
      | (with_reducible exact LeO.none _)
      | (with_reducible refine LeO.ite ?_ ?_)
      | (with_reducible refine LeO.bind ?_ (fun _ => ?_))
      | exact ih0 _ _ _ _
      | exact ih1 _ _ _ _ _ _ _ _
      | exact ih2 _ _ _ _ _ _ _ _ _ _ _ _ _
      | exact impl_table.mono _ _
      | exact LeO.none _
      | refine LeO.ite ?_ ?_
      | refine LeO.bind ?_ (fun _ => ?_)
    · intro y0 y1 y2 y3 y4 y5 y6 y7 y8 y9 y10 y11 y12
      unfold impl_pairs.l2
      repeat' first
      | (with_reducible exact ih0 _ _ _ _)
      | (with_reducible exact ih1 _ _ _ _ _ _ _ _)
      | (with_reducible exact ih2 _ _ _ _ _ _ _ _ _ _ _ _ _)
      | (with_reducible exact impl_table.mono _ _)
      | (with_reducible exact LeO.refl _)
      | (with_reducible exact LeO.none _)
      | (with_reducible refine LeO.ite ?_ ?_)
      | (with_reducible refine LeO.bind ?_ (fun _ => ?_))
      | exact ih0 _ _ _ _
      | exact ih1 _ _ _ _ _ _ _ _
      | exact ih2 _ _ _ _ _ _ _ _ _ _ _ _ _
      | exact impl_table.mono _ _
      | exact LeO.none _
      | refine LeO.ite ?_ ?_
      | refine LeO.bind ?_ (fun _ => ?_)
theorem impl_pairs.mono : ∀ a0 a1 k, LeO (impl_pairs.f k a0 a1) (impl_pairs.f (k + 1) a0 a1) := by
  intro a0 a1 k
  obtain ⟨ih0, ih1, ih2⟩ := impl_pairs.mono_l k
  unfold impl_pairs.f
  repeat' first
      | (with_reducible exact ih0 _ _ _ _)
      | (with_reducible exact ih1 _ _ _ _ _ _ _ _)
      | (with_reducible exact ih2 _ _ _ _ _ _ _ _ _ _ _ _ _)
      | (with_reducible exact impl_table.mono _ _)
      | (with_reducible exact LeO.refl _)
      | (with_reducible exact LeO.none _)
      | (with_reducible refine LeO.ite ?_ ?_)
      | (with_reducible refine LeO.bind ?_ (fun _ => ?_))
      | exact ih0 _ _ _ _
      | exact ih1 _ _ _ _ _ _ _ _
      | exact ih2 _ _ _ _ _ _ _ _ _ _ _ _ _
      | exact impl_table.mono _ _
      | exact LeO.none _
      | refine LeO.ite ?_ ?_
      | refine LeO.bind ?_ (fun _ => ?_)
set_option maxHeartbeats 8000000 in
set_option maxRecDepth 100000 in
theorem impl_pairs.calls (k : Nat) (a0 : Int) (A1 : Option Addr) (c1 : Nat) (l1 : List (List Int)) (r : List (List Int)) (w : World) (hr1 : Kd.C (Kd.slice 2 (Kd.int .i64)) w A1 l1.length l1) (hc1 : l1.length ≤ c1) (h : impl_pairs.f k a0 l1 = some r) :
    Calls Try.prog 75 #[.int .i64 a0, .slice A1 l1.length c1] w fun e w' => ∃ v0_ : Value, e = .returned (v0_) ∧ Kd.S (Kd.slice 2 (Kd.int .i64)) 22 w' w.heap.size (fun _ => True) v0_ r ∧ Below w.heap.size w w' := by
  have HR1 := Aside0.mk hr1
  have HC1 := Aside0.mk hc1
  clear hr1 hc1
  have HB := Aside0.mk (Below.refl w.heap.size w)
  have H : ((impl_table.f k a0).bind fun t400 => (impl_pairs.l0 k t400 l1 (l1.length : Int) 0)) = some r := h
  clear h
  replace H := Option.bind_eq_some_iff.mp H
  obtain ⟨t400, A30, H⟩ := H
  replace H : (impl_pairs.l0 k t400 l1 (l1.length : Int) 0) = some r := H
  have A3 := Aside0.mk A30
  clear A30
  have H' := Aside0.mk H
  clear H
  go_enter Try.func75, Try.ntmps75
  go_wp2_with (first | ((with_reducible refine gate_callee (f := 87) rfl ?_); refine goesL_ (some 13) rfl rfl Try.func87 (by kernel_rfl) rfl #[.int .i64 a0] rfl (by (try simp only [List.map_toArray, List.map_cons, List.map_nil]); first | done | rfl | (simp only [List.length_drop, List.length_take]; rfl)) ?_; (with_reducible refine (impl_table.calls k a0 t400 _ A3.out).mono ?_); rintro e w4 ⟨v401, rfl, ho0, hb⟩; refine ⟨_, rfl, ?_⟩; have n0_ := Aside0.mk (Kd.S_lower ho0 (below_size (by repeat (first | (with_reducible first | exact HB.out | apply below_alloc | apply pw_below_drewN | apply below_drew1) | exact HB.out)))); have n1_ := Aside0.mk (below_step (by repeat (first | (with_reducible first | exact HB.out | apply below_alloc | apply pw_below_drewN | apply below_drew1) | exact HB.out)) hb); clear HB; have HO402 := n0_; have HB := n1_; clear n0_ n1_; (try clear hb); (try clear hb2); (try clear hk); (try clear hi); (try clear ho0)))
  go_loopg [16] k (fun kq v16 w' => ∃ (x5_1 : List (List Int)) (x16_1 : Int), v16 = .int .i64 x16_1 ∧ Aside0 (impl_pairs.l0 kq x5_1 l1 (l1.length : Int) x16_1 = some r) ∧ Aside0 (kq ≤ k) ∧ Aside0 (Kd.S (Kd.slice 2 (Kd.int .i64)) 22 w' w.heap.size (fun _ => True) v401 x5_1) ∧ Aside0 (Below w.heap.size w w'))
  case atStart => exact ⟨(t400), (0), (by first | rfl | (simp; done) | (simp [*]; done)), H', ⟨Nat.le_refl _⟩, ⟨by (with_reducible repeat (first | apply Kd.S_alloc | apply Kd.S_drewN | apply Kd.S_drew)); exact HO402.out⟩, ⟨by repeat (first | (with_reducible first | exact HB.out | apply below_alloc | apply pw_below_drewN | apply below_drew1) | exact HB.out)⟩⟩
  case round =>
    clear H'
    try clear c1
    try clear p2
    obtain ⟨x5_1, x16_1, rfl, HA, HK1, HO_5, HB⟩ := hrel
    cases gk with
    | zero => exact absurd HA.out (by simp [impl_pairs.l0])
    | succ k1 =>
      have H := HA.out
      clear HA
      simp only [impl_pairs.l0] at H
      by_cases c5 : x16_1 < (l1.length : Int)
      · rw [if_pos c5] at H
        have c5b0 : decide (x16_1 < (l1.length : Int)) = true := decide_eq_true c5
        clear c5
        by_cases c6 : 0 ≤ x16_1
        · rw [if_pos c6] at H
          have c6b0 : decide (0 ≤ x16_1) = true := decide_eq_true c6
          clear c6
          by_cases c7 : x16_1 < (l1.length : Int)
          · rw [if_pos c7] at H
            have c7b0 : decide (x16_1 < (l1.length : Int)) = true := decide_eq_true c7
            clear c7
            have H' := Aside0.mk H
            clear H
            have p403 : 0 ≤ (x16_1 : Int) := of_decide_eq_true (by first | (with_reducible assumption) | assumption)
            have q403 : x16_1 < (l1.length : Int) := of_decide_eq_true (by first | (with_reducible assumption) | assumption)
            obtain ⟨ad403, A403_0, c403_0, e403, hx403_0, hl403_0, hi403_0⟩ := at_L1 HR1.out x16_1 p403 q403
            cases e403
            (try replace hx403_0 := (HB.out.cell (World.block_lt_of_cell? w _ hx403_0)).trans hx403_0)
            have HR403_0 := Aside0.mk hi403_0
            have HC403_0 := Aside0.mk hl403_0
            clear hi403_0 hl403_0
            replace p403 := eq_true p403
            replace q403 := eq_true q403
            go_wp2
            go_loopg [22] k1 (fun kq v22 w' => ∃ (x5_2 : List (List Int)) (x22_2 : Int), v22 = .int .i64 x22_2 ∧ Aside0 (impl_pairs.l1 kq x5_2 (rd_L1 l1 x16_1) l1 (l1.length : Int) x16_1 (rd_L1 l1 x16_1) ((rd_L1 l1 x16_1).length : Int) x22_2 = some r) ∧ Aside0 (kq ≤ k1) ∧ Aside0 (Kd.S (Kd.slice 2 (Kd.int .i64)) 22 w' w.heap.size (fun _ => True) v401 x5_2) ∧ Aside0 (Below w.heap.size w w'))
            case atStart => exact ⟨(x5_1), (0), (by first | rfl | (simp; done) | (simp [*]; done)), H', ⟨Nat.le_refl _⟩, ⟨by (with_reducible repeat (first | apply Kd.S_alloc | apply Kd.S_drewN | apply Kd.S_drew)); exact HO_5.out⟩, ⟨by repeat (first | (with_reducible first | exact HB.out | apply below_alloc | apply pw_below_drewN | apply below_drew1) | exact HB.out)⟩⟩
            case round =>
              clear H'
              try clear c1
              try clear p2
              try clear c4
              try clear p4
              try clear q4
              try clear hx4
              try clear c5
              try clear c5b0
              try clear c6
              try clear c6b0
              try clear c7
              try clear c7b0
              try clear hx403_0
              try clear p2
              try clear p403
              try clear q403
              obtain ⟨x5_2, x22_2, rfl, HA, HK2, HO_5, HB⟩ := hrel
              cases gk with
              | zero => exact absurd HA.out (by simp [impl_pairs.l1])
              | succ k2 =>
                have H := HA.out
                clear HA
                simp only [impl_pairs.l1] at H
                by_cases c8 : x22_2 < ((rd_L1 l1 x16_1).length : Int)
                · rw [if_pos c8] at H
                  have c8b0 : decide (x22_2 < ((rd_L1 l1 x16_1).length : Int)) = true := decide_eq_true c8
                  clear c8
                  by_cases c9 : 0 ≤ x22_2
                  · rw [if_pos c9] at H
                    have c9b0 : decide (0 ≤ x22_2) = true := decide_eq_true c9
                    clear c9
                    by_cases c10 : x22_2 < ((rd_L1 l1 x16_1).length : Int)
                    · rw [if_pos c10] at H
                      have c10b0 : decide (x22_2 < ((rd_L1 l1 x16_1).length : Int)) = true := decide_eq_true c10
                      clear c10
                      have H' := Aside0.mk H
                      clear H
                      have p404 : 0 ≤ (x22_2 : Int) := of_decide_eq_true (by first | (with_reducible assumption) | assumption)
                      have q404 : x22_2 < ((rd_L1 l1 x16_1).length : Int) := of_decide_eq_true (by first | (with_reducible assumption) | assumption)
                      obtain ⟨ad404, e404, hx404_0⟩ := Kd.at_int HR403_0.out x22_2 p404 q404
                      cases e404
                      (try replace hx404_0 := (HB.out.cell (World.block_lt_of_cell? w _ hx404_0)).trans hx404_0)
                      replace p404 := eq_true p404
                      replace q404 := eq_true q404
                      go_wp2
                      go_loopg [29] k2 (fun kq v29 w' => ∃ (x5_3 : List (List Int)) (x29_3 : Int), v29 = .int .i64 x29_3 ∧ Aside0 (impl_pairs.l2 kq x5_3 (rd_L1 l1 x16_1) x22_2 (rd (rd_L1 l1 x16_1) x22_2) l1 (l1.length : Int) x16_1 (rd_L1 l1 x16_1) ((rd_L1 l1 x16_1).length : Int) x22_2 (rd_L1 l1 x16_1) ((rd_L1 l1 x16_1).length : Int) x29_3 = some r) ∧ Aside0 (kq ≤ k2) ∧ Aside0 (Kd.S (Kd.slice 2 (Kd.int .i64)) 22 w' w.heap.size (fun _ => True) v401 x5_3) ∧ Aside0 (Below w.heap.size w w'))
                      case atStart => exact ⟨(x5_2), (0), (by first | rfl | (simp; done) | (simp [*]; done)), H', ⟨Nat.le_refl _⟩, ⟨by (with_reducible repeat (first | apply Kd.S_alloc | apply Kd.S_drewN | apply Kd.S_drew)); exact HO_5.out⟩, ⟨by repeat (first | (with_reducible first | exact HB.out | apply below_alloc | apply pw_below_drewN | apply below_drew1) | exact HB.out)⟩⟩
                      case round =>
                        clear H'
                        try clear c1
                        try clear p2
                        try clear c4
                        try clear p4
                        try clear q4
                        try clear hx4
                        try clear c5
                        try clear c5b0
                        try clear c6
                        try clear c6b0
                        try clear c7
                        try clear c7b0
                        try clear c8
                        try clear c8b0
                        try clear c9
                        try clear c9b0
                        try clear c10
                        try clear c10b0
                        try clear hx403_0
                        try clear hx404_0
                        try clear p2
                        try clear p4
                        try clear p403
                        try clear p404
                        try clear q4
                        try clear q403
                        try clear q404
                        obtain ⟨x5_3, x29_3, rfl, HA, HK3, HO_5, HB⟩ := hrel
                        cases gk with
                        | zero => exact absurd HA.out (by simp [impl_pairs.l2])
                        | succ k3 =>
                          have H := HA.out
                          clear HA
                          simp only [impl_pairs.l2] at H
                          by_cases c11 : x29_3 < ((rd_L1 l1 x16_1).length : Int)
                          · rw [if_pos c11] at H
                            have c11b0 : decide (x29_3 < ((rd_L1 l1 x16_1).length : Int)) = true := decide_eq_true c11
                            clear c11
                            by_cases c12 : 0 ≤ x29_3
                            · rw [if_pos c12] at H
                              have c12b0 : decide (0 ≤ x29_3) = true := decide_eq_true c12
                              clear c12
                              by_cases c13 : x29_3 < ((rd_L1 l1 x16_1).length : Int)
                              · rw [if_pos c13] at H
                                have c13b0 : decide (x29_3 < ((rd_L1 l1 x16_1).length : Int)) = true := decide_eq_true c13
                                clear c13
                                by_cases c14 : (rd (rd_L1 l1 x16_1) x22_2) > (rd (rd_L1 l1 x16_1) x29_3)
                                · rw [if_pos c14] at H
                                  have c14b0 : decide ((rd (rd_L1 l1 x16_1) x29_3) < (rd (rd_L1 l1 x16_1) x22_2)) = true := decide_eq_true c14
                                  clear c14
                                  by_cases c15 : 0 ≤ x22_2
                                  · rw [if_pos c15] at H
                                    have c15b0 : decide (0 ≤ x22_2) = true := decide_eq_true c15
                                    clear c15
                                    by_cases c16 : x22_2 < (x5_3.length : Int)
                                    · rw [if_pos c16] at H
                                      have c16b0 : decide (x22_2 < (x5_3.length : Int)) = true := decide_eq_true c16
                                      clear c16
                                      by_cases c17 : x29_3 < ((rd_L1 x5_3 x22_2).length : Int)
                                      · rw [if_pos c17] at H
                                        have c17b0 : decide (x29_3 < ((rd_L1 x5_3 x22_2).length : Int)) = true := decide_eq_true c17
                                        clear c17
                                        obtain ⟨y408, hy408⟩ : ∃ y_ : List Int, y_ = ((rd_L1 x5_3 x22_2).set (x29_3 : Int).toNat (wrap64 ((rd (rd_L1 x5_3 x22_2) x29_3) + 1))) := ⟨_, rfl⟩
                                        replace H : (impl_pairs.l2 k3 (x5_3.set (x22_2 : Int).toNat y408) (rd_L1 l1 x16_1) x22_2 (rd (rd_L1 l1 x16_1) x22_2) l1 (l1.length : Int) x16_1 (rd_L1 l1 x16_1) ((rd_L1 l1 x16_1).length : Int) x22_2 (rd_L1 l1 x16_1) ((rd_L1 l1 x16_1).length : Int) (wrap64 (x29_3 + 1))) = some r := by first | (rw [hy408]; with_reducible exact H) | (have H2_ := (Option.bind_some _ _).symm.trans H; rw [hy408]; with_reducible exact H2_) | (have H2_ := (Option.bind_some _ _).symm.trans H; with_reducible exact H2_) | with_reducible exact H | (rw [hy408]; exact H) | exact H
                                        have Ny408 := Aside0.mk hy408
                                        clear hy408
                                        obtain ⟨y410, hy410⟩ : ∃ y_ : List (List Int), y_ = (x5_3.set (x22_2 : Int).toNat y408) := ⟨_, rfl⟩
                                        replace H : (impl_pairs.l2 k3 y410 (rd_L1 l1 x16_1) x22_2 (rd (rd_L1 l1 x16_1) x22_2) l1 (l1.length : Int) x16_1 (rd_L1 l1 x16_1) ((rd_L1 l1 x16_1).length : Int) x22_2 (rd_L1 l1 x16_1) ((rd_L1 l1 x16_1).length : Int) (wrap64 (x29_3 + 1))) = some r := by first | (rw [hy410]; with_reducible exact H) | (have H2_ := (Option.bind_some _ _).symm.trans H; rw [hy410]; with_reducible exact H2_) | (have H2_ := (Option.bind_some _ _).symm.trans H; with_reducible exact H2_) | with_reducible exact H | (rw [hy410]; exact H) | exact H
                                        have Ny410 := Aside0.mk hy410
                                        clear hy410
                                        have H' := Aside0.mk H
                                        clear H
                                        have p405 : 0 ≤ (x29_3 : Int) := of_decide_eq_true (by first | (with_reducible assumption) | assumption)
                                        have q405 : x29_3 < ((rd_L1 l1 x16_1).length : Int) := of_decide_eq_true (by first | (with_reducible assumption) | assumption)
                                        obtain ⟨ad405, e405, hx405_0⟩ := Kd.at_int HR403_0.out x29_3 p405 q405
                                        obtain rfl : ad404 = ad405 := (by injection e405)
                                        (try replace hx405_0 := (HB.out.cell (World.block_lt_of_cell? w _ hx405_0)).trans hx405_0)
                                        replace p405 := eq_true p405
                                        replace q405 := eq_true q405
                                        obtain ⟨Ao19, co19, eo19⟩ := Kd.S_slice HO_5.out
                                        subst eo19
                                        have p406 : 0 ≤ (x22_2 : Int) := of_decide_eq_true (by first | (with_reducible assumption) | assumption)
                                        have q406 : x22_2 < (x5_3.length : Int) := of_decide_eq_true (by first | (with_reducible assumption) | assumption)
                                        obtain ⟨ad406, A406_0, c406_0, e406, hx406_0, hl406_0, hi406_0⟩ := at_L1 (Kd.S_reads' HO_5.out).2.2 x22_2 p406 q406
                                        cases e406
                                        obtain ⟨ce406, hce406, hMe406, hcc406⟩ := Kd.S_get HO_5.out [] x22_2 p406 (by first | exact q406 | exact of_decide_eq_true (by first | (with_reducible assumption) | assumption) | (have e_ := (Kd.S_reads' HO_5.out).1; omega))
                                        obtain ⟨ve406_0, rfl, ge406_0⟩ := hMe406
                                        have hv406_0 := hcc406 0 _ rfl
                                        rw [Nat.add_zero, show ((Kd.slice 2 (Kd.int .i64))).sz = 1 from rfl, Nat.mul_one] at hv406_0
                                        replace hv406_0 := Option.some.inj (hv406_0.symm.trans hx406_0)
                                        rw [hv406_0] at ge406_0
                                        have HL406_0 := Aside0.mk (show Kd.R (Kd.int .i64) 2 _ _ _ _ (rd_L1 x5_3 x22_2) from ge406_0)
                                        clear hv406_0 ge406_0
                                        have HX406_0 := Aside0.mk hx406_0
                                        clear hcc406 hce406
                                        have HR406_0 := Aside0.mk hi406_0
                                        have HC406_0 := Aside0.mk hl406_0
                                        clear hi406_0 hl406_0
                                        replace p406 := eq_true p406
                                        replace q406 := eq_true q406
                                        have p407 : 0 ≤ (x29_3 : Int) := of_decide_eq_true (by first | (with_reducible assumption) | assumption)
                                        have q407 : x29_3 < ((rd_L1 x5_3 x22_2).length : Int) := of_decide_eq_true (by first | (with_reducible assumption) | assumption)
                                        obtain ⟨ad407, e407, hx407_0⟩ := Kd.at_int (by repeat (first | (with_reducible exact HR406_0.out) | (with_reducible refine Kd.C_alloc ?_ _) | (with_reducible refine Kd.C_drewN ?_ _) | (with_reducible refine Kd.C_drew ?_) | exact HR406_0.out)) x29_3 p407 q407
                                        cases e407
                                        replace p407 := eq_true p407
                                        replace q407 := eq_true q407
                                        have p18 : 0 ≤ (x29_3 : Int) := of_decide_eq_true (by first | (with_reducible assumption) | assumption)
                                        have q18 : (x29_3 : Int) < (((rd_L1 x5_3 x22_2).length : Int) : Int) := of_decide_eq_true (by first | (with_reducible assumption) | assumption)
                                        obtain ⟨go18, co18, eo18, gb18, gl18, cl18, HG18⟩ := Kd.R_form HL406_0.out (by omega)
                                        (first | cases eo18 | (injection eo18 with ea_ en_ ec_; (first | subst ea_ | (injection ea_ with ea_; subst ea_)); subst ec_; clear en_))
                                        have GB18 := Aside0.mk gb18
                                        have GG18 := Aside0.mk HG18
                                        clear gb18 gl18 HG18
                                        (first | simp only [add_plain] at hx407_0 | skip)
                                        obtain ⟨hx18_0, hf18_0⟩ := Kd.R_celln 0 HL406_0.out (x29_3 : Int) p18 q18
                                        replace p18 := eq_true p18
                                        replace q18 := eq_true q18
                                        have hq20 : (x22_2 : Int) < (x5_3.length : Int) := (by have h_ : (x22_2 : Int) < ((x5_3.length : Int) : Int) := of_decide_eq_true (by first | (with_reducible assumption) | assumption); first | exact h_ | (have e_ := (Kd.S_reads' HO_5.out).1; omega) | simpa only [List.length_set, List.length_set] using h_)
                                        obtain ⟨oki20, ce20, hcl20, hM20, hcc20, hok20, hbk20⟩ := Kd.S_borrow HO_5.out [] (x22_2 : Int) (of_decide_eq_true (by first | (with_reducible assumption) | assumption)) hq20
                                        obtain ⟨ve20_0, rfl, ge20_0⟩ := hM20
                                        have hv20 := hcc20 0 _ rfl
                                        rw [Nat.add_zero, show ((Kd.slice 2 (Kd.int .i64))).sz = 1 from rfl, Nat.mul_one] at hv20
                                        replace hv20 := Option.some.inj (hv20.symm.trans HX406_0.out)
                                        subst hv20
                                        clear hcc20 hcl20
                                        replace ge20_0 := (show Kd.R (Kd.int .i64) 2 _ _ _ _ (rd_L1 x5_3 x22_2) from ge20_0)
                                        have HP20 := Kd.R_putg ge20_0 (x29_3 : Int) (wrap64 ((rd (rd_L1 x5_3 x22_2) x29_3) + 1))
                                        go_wp2_with (first | ((with_reducible refine gate_store (t := 2) (p := 45) rfl ?_); refine store_event (t := 2) (p := 45) (v := ?vo_w21) (w1 := (wr.setCell ⟨go18, (x29_3 : Int).toNat, none⟩ (.int .i64 (wrap64 ((rd (rd_L1 x5_3 x22_2) x29_3) + 1))))) ?hg ?ho ?hn ?hr ?_; (case ho => rfl); (case hg => rfl); (case hn => rfl); (case hr => first | (go_simp; done) | (go_simp; rfl)); intro w21 hw; have hg : wr.grownBy w21 (some go18) := (by rw [hw]; exact HP20.2); have hz_ : Kd.R (Kd.int .i64) 2 w21 w.heap.size oki20 (.slice (some ⟨go18, 0, none⟩) (rd_L1 x5_3 x22_2).length c406_0) y408 := (by rw [hw, Ny408.out]; exact HP20.1); have hp_ : Kd.S (Kd.slice 2 (Kd.int .i64)) 22 w21 w.heap.size (fun _ => True) (.slice (some ad406) x5_3.length co19) y410 := (by rw [Ny410.out]; exact hbk20 hg (fun k_ e_ => by injection e_ with e_; subst e_; exact ge20_0.1 _ rfl) (Kd.M_row hz_)); have hm_ := Kd.R_mono hz_ hok20; clear HP20 hbk20; have n0_ := Aside0.mk (hp_); have n1_ := Aside0.mk ((by rw [hw]; exact below_set (HB.out) GB18.out : Below w.heap.size w w21)); have n2_ := Aside0.mk (hm_); have n3_ := Aside0.mk ((Kd.R_reads' hm_).2.1); clear HO_5; clear HB; clear HL406_0; have HO_5 := n0_; have HB := n1_; have HL411 := n2_; have HC409 := n3_; clear n0_ n1_ n2_ n3_; clear hg hw hp_ hz_ hm_ hok20))
                                        go_roundg k3
                                        case measure => have := HK1.out; have := HK2.out; have := HK3.out; omega
                                        case rel => exact ⟨(y410), (wrap64 (x29_3 + 1)), (by first | rfl | (simp; done) | (simp [*]; done)), H', ⟨by have := HK1.out; have := HK2.out; have := HK3.out; omega⟩, ⟨by (with_reducible repeat (first | apply Kd.S_alloc | apply Kd.S_drewN | apply Kd.S_drew)); exact HO_5.out⟩, ⟨by repeat (first | (with_reducible first | exact HB.out | apply below_alloc | apply pw_below_drewN | apply below_drew1) | exact HB.out)⟩⟩
                                      · rw [if_neg c17] at H
                                        exact absurd H (by simp)
                                    · rw [if_neg c16] at H
                                      exact absurd H (by simp)
                                  · rw [if_neg c15] at H
                                    exact absurd H (by simp)
                                · rw [if_neg c14] at H
                                  have c14b0 : decide ((rd (rd_L1 l1 x16_1) x29_3) < (rd (rd_L1 l1 x16_1) x22_2)) = false := decide_eq_false c14
                                  clear c14
                                  have H' := Aside0.mk H
                                  clear H
                                  have p405 : 0 ≤ (x29_3 : Int) := of_decide_eq_true (by first | (with_reducible assumption) | assumption)
                                  have q405 : x29_3 < ((rd_L1 l1 x16_1).length : Int) := of_decide_eq_true (by first | (with_reducible assumption) | assumption)
                                  obtain ⟨ad405, e405, hx405_0⟩ := Kd.at_int HR403_0.out x29_3 p405 q405
                                  obtain rfl : ad404 = ad405 := (by injection e405)
                                  (try replace hx405_0 := (HB.out.cell (World.block_lt_of_cell? w _ hx405_0)).trans hx405_0)
                                  replace p405 := eq_true p405
                                  replace q405 := eq_true q405
                                  go_wp2
                                  go_roundg k3
                                  case measure => have := HK1.out; have := HK2.out; have := HK3.out; omega
                                  case rel => exact ⟨(x5_3), (wrap64 (x29_3 + 1)), (by first | rfl | (simp; done) | (simp [*]; done)), H', ⟨by have := HK1.out; have := HK2.out; have := HK3.out; omega⟩, ⟨by (with_reducible repeat (first | apply Kd.S_alloc | apply Kd.S_drewN | apply Kd.S_drew)); exact HO_5.out⟩, ⟨by repeat (first | (with_reducible first | exact HB.out | apply below_alloc | apply pw_below_drewN | apply below_drew1) | exact HB.out)⟩⟩
                              · rw [if_neg c13] at H
                                exact absurd H (by simp)
                            · rw [if_neg c12] at H
                              exact absurd H (by simp)
                          · rw [if_neg c11] at H
                            have c11b0 : decide (x29_3 < ((rd_L1 l1 x16_1).length : Int)) = false := decide_eq_false c11
                            clear c11
                            have H' := Aside0.mk H
                            clear H
                            go_wp2
                            go_roundg k3
                            case measure => have := HK1.out; have := HK2.out; have := HK3.out; omega
                            case rel => exact ⟨(x5_3), (wrap64 (x22_2 + 1)), (by first | rfl | (simp; done) | (simp [*]; done)), H', ⟨by have := HK1.out; have := HK2.out; have := HK3.out; omega⟩, ⟨by (with_reducible repeat (first | apply Kd.S_alloc | apply Kd.S_drewN | apply Kd.S_drew)); exact HO_5.out⟩, ⟨by repeat (first | (with_reducible first | exact HB.out | apply below_alloc | apply pw_below_drewN | apply below_drew1) | exact HB.out)⟩⟩
                    · rw [if_neg c10] at H
                      exact absurd H (by simp)
                  · rw [if_neg c9] at H
                    exact absurd H (by simp)
                · rw [if_neg c8] at H
                  have c8b0 : decide (x22_2 < ((rd_L1 l1 x16_1).length : Int)) = false := decide_eq_false c8
                  clear c8
                  have H' := Aside0.mk H
                  clear H
                  go_wp2
                  go_roundg k2
                  case measure => have := HK1.out; have := HK2.out; omega
                  case rel => exact ⟨(x5_2), (wrap64 (x16_1 + 1)), (by first | rfl | (simp; done) | (simp [*]; done)), H', ⟨by have := HK1.out; have := HK2.out; omega⟩, ⟨by (with_reducible repeat (first | apply Kd.S_alloc | apply Kd.S_drewN | apply Kd.S_drew)); exact HO_5.out⟩, ⟨by repeat (first | (with_reducible first | exact HB.out | apply below_alloc | apply pw_below_drewN | apply below_drew1) | exact HB.out)⟩⟩
          · rw [if_neg c7] at H
            exact absurd H (by simp)
        · rw [if_neg c6] at H
          exact absurd H (by simp)
      · rw [if_neg c5] at H
        have c5b0 : decide (x16_1 < (l1.length : Int)) = false := decide_eq_false c5
        clear c5
        obtain rfl := Option.some.inj H
        go_wp2
        go_ret
        exact ⟨_, by first | rfl | (simp [errW_none, errW_some] <;> rfl) | (simp [*, errW_none, errW_some] <;> rfl), by (with_reducible repeat (first | apply Kd.S_alloc | apply Kd.S_drewN | apply Kd.S_drew)); exact HO_5.out, by repeat (first | (with_reducible first | exact HB.out | apply below_alloc | apply pw_below_drewN | apply below_drew1) | exact HB.out)⟩

end Go.Proofs.Ytmfnlaodcblglaa.G
