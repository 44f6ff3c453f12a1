/- spec.l07Best, walked by hand. Printed by wip/tools/bests.py. -/
import Derived.Test.YtngpjamojkneeaaFBestI
import Derived.Test.YtngpjamojkneeaaFBestA
import Derived.Test.YtngpjamojkneeaaFLwLib
import Derived.Test.YtngpjamojkneeaaG1
import Derived.Test.YtngpjamojkneeaaG1
import Derived.Test.YtngpjamojkneeaaG1
import Derived.BigQuiet
import Derived.ChangeAlike
import Derived.Outline
namespace Go.Proofs.Ytngpjamojkneeaa.G
open Go.RowKit Go.Proofs.YtngpjamojkneeaaW.PrintWords Go.Proofs.YtngpjamojkneeaaW.PrintLast Go.Proofs.YtngpjamojkneeaaW.PrintMore
attribute [local go_sem] max2_int min2_int max_two min_two max_three min_three max_four min_four   -- for this text's walks alone
set_option linter.unusedVariables false
set_option linter.unusedSimpArgs false

open Go.Proofs.Ytngpjamojkneeaa.Wk Go.Proofs.Ytngpjamojkneeaa.Pl Go.Proofs.Ytngpjamojkneeaa.Best
open Best
set_option maxHeartbeats 16000000 in
set_option maxRecDepth 100000 in
theorem bestS (q : Nat) (hq1 : 1 ≤ q) (hq : q ≤ 8) (A1 : Option Addr) (c1 : Nat) (l1 : List (List Int)) (pr : List (List Int)) (kp ka : Nat) (r1 : List Int) (r2 : Int) (w : World) (hr1 : Kd.C (Kd.slice 2 (Kd.int .i64)) w A1 l1.length l1) (hc1 : l1.length ≤ c1)
    (hp : spec_l07Pairs.f kp q l1 = some pr) (hsq : Sq q pr) (hA : ∀ i s : Nat, i < q → s < 256 → spec_l07Ahead.f ka pr i s = some (ahdN pr i s q)) (h : bestOS pr q = some (r1, r2)) :
    Calls Try.prog 30 #[.int .i64 q, .slice A1 l1.length c1] w fun e w' => ∃ v : Value, e = .returned (.tuple #[v, .int .i64 r2]) ∧ RI w' w.heap.size v r1 ∧ Below w.heap.size w w' := by
  have HR := Aside0.mk hr1
  have HP := Lib.hid hp
  have HH := Lib.hid h
  have HSQ := Aside0.mk hsq
  have HA := Lib.hid hA
  clear hr1 hp h hsq hA
  obtain ⟨Z, hZ⟩ : ∃ Z : Nat, Z = 2 ^ q := ⟨_, rfl⟩
  have hZb : 2 ≤ Z ∧ Z ≤ 256 := by
    rw [hZ]
    have : q = 1 ∨ q = 2 ∨ q = 3 ∨ q = 4 ∨ q = 5 ∨ q = 6 ∨ q = 7 ∨ q = 8 := by omega
    rcases this with rfl | rfl | rfl | rfl | rfl | rfl | rfl | rfl <;> decide
  have hz : (2 : Int) ^ q = (Z : Int) := by rw [hZ]; simp
  have HZ := Lib.hid hZ
  clear hZ
  have hlen := HSQ.out.1
  have huq := u64_i (show q < 256 by omega)
  go_enter Try.func30, Try.ntmps30
  go_upto_region 3 with (first | (go_at_call 34; (refine (spec_l07Pairs.calls kp q A1 c1 l1 pr _ HR.out hc1 HP.out).mono ?_; rintro e w1 ⟨v19, rfl, hS, hb⟩; have B1 := Aside0.mk hb; have S1 := Aside0.mk hS; clear hS hb; obtain ⟨A19, c19, rfl⟩ := Kd.S_slice S1.out)))
  have hc19 := (Kd.S_reads' S1.out).2.1
  have HC := Lib.hid fun (i R : Nat) (W : World) (hC : Kd.C (Kd.slice 2 (Kd.int .i64)) W A19 q pr) (hi : i < q) (hr : R < 256) => show Calls Try.prog 56 #[.slice A19 q c19, .int .i64 (i : Int), .int .i64 (R : Int)] W (fun e w' => e = .returned (.int .i64 (ahdN pr i R q)) ∧ Drawn0 W w') by
    have h := spec_l07Ahead.calls ka A19 c19 pr i R _ W (by rw [hlen]; exact hC) hc19 (HA.out i R hi hr)
    rwa [hlen] at h
  have XC : Aside0 (Kd.C (Kd.slice 2 (Kd.int .i64)) w1 A19 q pr) := ⟨by rw [← hlen]; exact (Kd.S_reads' S1.out).2.2⟩
  clear HR HP HA S1
  go_wp2_with (first | ((with_reducible refine gate_dst (N := 21) rfl ?_); refine event_run rfl (build_runs _ rfl) ?_) | ((with_reducible refine gate_dst (N := 8) rfl ?_); refine event_run rfl (alloc_runs _ rfl) ?_) | ((with_reducible refine gate_store rfl ?_); refine store_event rfl rfl rfl (store_runs w1 rfl rfl rfl) ?_; rintro w2 rfl))
  have R7 := Aside0.mk (R_zeros w1 w1.heap.size (Nat.le_refl _))
  have B7 := Aside0.mk (below_alloc (Below.refl w1.heap.size w1) (.cells (Array.replicate 256 (.int .i64 0)) 69))
  have hund := undA
  go_loopg [9] Z (fun gg v9 wr => ∃ s : Nat, 1 ≤ s ∧ s ≤ Z ∧ Z - s ≤ gg ∧ v9 = .int .i64 s ∧ Aside0 (RA wr w1.heap.size w1.heap.size (tabS pr q (s - 1))) ∧ Aside0 (Below w1.heap.size w1 wr))
  case atStart => exact ⟨1, Nat.le_refl _, by omega, by omega, rfl, R7, B7⟩
  case round =>
    clear R7 B7
    obtain ⟨s, hs1, hsZ, hgg, rfl, R7, B7⟩ := hrel
    by_cases hlt : s < Z
    · have hltz : (s : Int) < (Z : Int) := by omega
      have hs : s < 256 := by omega
      have h256 : (s : Int) < (256 : Int) := by omega
      have hs0 : decide ((0 : Int) ≤ (s : Int)) = true := decide_eq_true (by omega)
      have hs1 : decide ((s : Int) < (256 : Int)) = true := decide_eq_true h256
      obtain ⟨y0, z0⟩ := Kd.R_celln 0 R7.out (s : Int) (by omega) h256
      rw [Int.toNat_natCast] at y0 z0
      have RP := fun v => Kd.R_putn R7.out (s : Int) v
      rw [Int.toNat_natCast] at RP
      have HRP := Aside0.mk RP
      clear RP
      go_upto_region 8 with (fail)
      first
        | refine reletE (F := fun w' => RA w' w1.heap.size w1.heap.size (rowS pr q s (tabS pr q (s - 1)) 0) ∧ Below w1.heap.size w1 w') ⟨HRP.out (-1), B7.out.setCell (Nat.le_refl _) _⟩ ?_
        | refine reletI (F := fun w' => RA w' w1.heap.size w1.heap.size (rowS pr q s (tabS pr q (s - 1)) 0) ∧ Below w1.heap.size w1 w') ⟨HRP.out (-1), B7.out.setCell (Nat.le_refl _) _⟩ ?_
        | refine reletC (F := fun w' => RA w' w1.heap.size w1.heap.size (rowS pr q s (tabS pr q (s - 1)) 0) ∧ Below w1.heap.size w1 w') ⟨HRP.out (-1), B7.out.setCell (Nat.le_refl _) _⟩ ?_
      rintro w3 ⟨r3, b3⟩
      have RT := Aside0.mk r3
      have BT := Aside0.mk b3
      clear r3 b3 R7 B7 HRP y0 z0
      have htl : ∀ n, (rowS pr q s (tabS pr q (s - 1)) n).length = 256 := fun n => by rw [rowS_length, tabS_length]
      have HTL := Aside0.mk htl
      clear htl
      go_wp2
      go_loopg [10] q (fun gg v10 wi => ∃ i : Nat, i ≤ q ∧ q - i ≤ gg ∧ v10 = .int .i64 i ∧ Aside0 (RA wi w1.heap.size w1.heap.size (rowS pr q s (tabS pr q (s - 1)) i)) ∧ Aside0 (Below w1.heap.size w1 wi))
      case atStart => exact ⟨0, Nat.zero_le _, by omega, rfl, RT, BT⟩
      case round =>
        clear RT BT
        obtain ⟨i, hiq, hgi, rfl, RT, BI⟩ := hrel
        by_cases hi : i < q
        · have hi' : (i : Int) < (q : Int) := by omega
          obtain ⟨R, hR⟩ : ∃ R, R = rs s i := ⟨_, rfl⟩
          obtain ⟨⟨hbit, hand, -⟩, hRs, hbR⟩ := bits_at hs (show i < 8 by omega)
          rw [← hR] at hand hRs hbR
          obtain ⟨p2, hp2, hp2b⟩ := pow_i (show i < 8 by omega)
          rw [hp2] at hand hbit
          have hu := u64_i (show i < 256 by omega)
          have hr256 : R < 256 := by omega
          have hnext := rowS_succ pr q s (tabS pr q (s - 1)) i
          unfold updS at hnext
          rw [← hR] at hnext
          have hLl := HTL.out i
          generalize rowS pr q s (tabS pr q (s - 1)) i = L at RT hnext hLl
          have HRR := Lib.hid hR
          clear hR
          cases hb : s.testBit i
          · rw [hb] at hbR hnext hbit
            have hRS : R = s := by
              have := of_decide_eq_false hbR.symm
              omega
            have HN := Lib.hid (show rowS pr q s (tabS pr q (s - 1)) (i + 1) = L from hnext)
            clear hbR hnext hb hRs hRS
            go_wp2
            go_roundg (q - (i + 1))
            case measure => omega
            case rel => exact ⟨i + 1, by omega, by omega, by go_num, by rw [HN.out]; exact RT, BI⟩
          · rw [hb] at hbR hnext hbit
            have hRS : R < s := of_decide_eq_true hbR.symm
            have HN := Lib.hid (show rowS pr q s (tabS pr q (s - 1)) (i + 1) = L.set s (lmax (L.getD s 0) (wrap64 (L.getD R 0 + ahdN pr i R q))) from hnext)
            clear hbR hnext hb hRs
            have hR2 : (R : Int) < (256 : Int) := by omega
            obtain ⟨y0, z0⟩ := Kd.R_celln 0 RT.out (s : Int) (by omega) h256
            obtain ⟨y1, z1⟩ := Kd.R_celln 0 RT.out (R : Int) (by omega) hR2
            rw [Int.toNat_natCast] at y0 z0 y1 z1
            have hx0 : rdOf 0 L (s : Int) = L.getD s 0 := rfl
            have hx1 : rdOf 0 L (R : Int) = L.getD R 0 := rfl
            rw [hx0] at y0
            rw [hx1] at y1
            clear hx0 hx1
            have RP := fun n v => Kd.R_putn (Kd.R_drewN RT.out n) (s : Int) v
            rw [Int.toNat_natCast] at RP
            have HRP := Aside0.mk RP
            clear RP
            generalize L.getD s 0 = xs at y0 HN
            generalize L.getD R 0 = xr at y1 HN
            have hR0 : decide ((0 : Int) ≤ (R : Int)) = true := decide_eq_true (by omega)
            have hR1 : decide ((R : Int) < (256 : Int)) = true := decide_eq_true hR2
            go_wp2
            refine start_ (n := 15) (S := fun w' => w'.cell? ⟨w1.heap.size, s, none⟩ = some (.int .i64 xs) ∧ w'.cell? ⟨w1.heap.size, R, none⟩ = some (.int .i64 xr)) (ds := [14]) #[false, false, false, false, false, false, false, false, false, false, false, false, false, false, false] (by kernel_rfl) rfl rfl ⟨(show wr.drew.cell? ⟨w1.heap.size, s, none⟩ = some (.int .i64 xs) from y0), (show wr.drew.cell? ⟨w1.heap.size, R, none⟩ = some (.int .i64 xr) from y1)⟩ (fun hHeld => ?_)
            refine pure_ (i := 0) (N := some 45) (v := ?_) (a' := ?_) #[true, false, false, false, false, false, false, false, false, false, false, false, false, false, false] rfl rfl (by kernel_rfl) (fun _ _ _ h => h) (Or.inl ⟨by rfl, ?_⟩) ?_ ?_
            rotate_left
            · intro w'
              go_simp
              with_reducible rfl
            rotate_left
            · simp only [Act.put, List.setIfInBounds_toArray, List.set_cons_zero, List.set_cons_succ, i64_w, i32_w]
              rfl
            refine pure_ (i := 1) (N := some 46) (v := ?_) (a' := ?_) #[true, true, false, false, false, false, false, false, false, false, false, false, false, false, false] rfl rfl (by kernel_rfl) (fun _ _ _ h => h) (Or.inl ⟨by rfl, ?_⟩) ?_ ?_
            rotate_left
            · intro w'
              go_simp
              with_reducible rfl
            rotate_left
            · simp only [Act.put, List.setIfInBounds_toArray, List.set_cons_zero, List.set_cons_succ, i64_w, i32_w]
              rfl
            refine pure_ (i := 2) (N := some 47) (v := ?_) (a' := ?_) #[true, true, true, false, false, false, false, false, false, false, false, false, false, false, false] rfl rfl (by kernel_rfl) (fun _ _ _ h => h) (Or.inl ⟨by rfl, ?_⟩) ?_ ?_
            rotate_left
            · intro w'
              go_simp
              with_reducible rfl
            rotate_left
            · simp only [Act.put, List.setIfInBounds_toArray, List.set_cons_zero, List.set_cons_succ, i64_w, i32_w]
              rfl
            refine pure_ (i := 4) (N := some 49) (v := ?_) (a' := ?_) #[true, true, true, false, true, false, false, false, false, false, false, false, false, false, false] rfl rfl (by kernel_rfl) (fun _ _ _ h => h) (Or.inl ⟨by rfl, ?_⟩) ?_ ?_
            rotate_left
            · intro w'
              go_simp
              with_reducible rfl
            rotate_left
            · simp only [Act.put, List.setIfInBounds_toArray, List.set_cons_zero, List.set_cons_succ, i64_w, i32_w]
              rfl
            refine pure_ (i := 5) (N := some 50) (v := ?_) (a' := ?_) #[true, true, true, false, true, true, false, false, false, false, false, false, false, false, false] rfl rfl (by kernel_rfl) (fun _ _ _ h => h) (Or.inl ⟨by rfl, ?_⟩) ?_ ?_
            rotate_left
            · intro w'
              go_simp
              with_reducible rfl
            rotate_left
            · simp only [Act.put, List.setIfInBounds_toArray, List.set_cons_zero, List.set_cons_succ, i64_w, i32_w]
              rfl
            refine pure_ (i := 7) (N := some 52) (v := ?_) (a' := ?_) #[true, true, true, false, true, true, false, true, false, false, false, false, false, false, false] rfl rfl (by kernel_rfl) (fun _ _ _ h => h) (Or.inl ⟨by rfl, ?_⟩) ?_ ?_
            rotate_left
            · intro w'
              go_simp
              with_reducible rfl
            rotate_left
            · simp only [Act.put, List.setIfInBounds_toArray, List.set_cons_zero, List.set_cons_succ, i64_w, i32_w]
              rfl
            refine pure_ (i := 8) (N := some 53) (v := ?_) (a' := ?_) #[true, true, true, false, true, true, false, true, true, false, false, false, false, false, false] rfl rfl (by kernel_rfl) (fun _ _ _ h => h) (Or.inl ⟨by rfl, ?_⟩) ?_ ?_
            rotate_left
            · intro w'
              go_simp
              with_reducible rfl
            rotate_left
            · simp only [Act.put, List.setIfInBounds_toArray, List.set_cons_zero, List.set_cons_succ, i64_w, i32_w]
              rfl
            refine pure_ (i := 9) (N := some 54) (v := ?_) (a' := ?_) #[true, true, true, false, true, true, false, true, true, true, false, false, false, false, false] rfl rfl (by kernel_rfl) (fun _ _ _ h => h) (Or.inl ⟨by rfl, ?_⟩) ?_ ?_
            rotate_left
            · intro w'
              go_simp
              with_reducible rfl
            rotate_left
            · simp only [Act.put, List.setIfInBounds_toArray, List.set_cons_zero, List.set_cons_succ, i64_w, i32_w]
              rfl
            refine take_ (i := 3) (N := some 48) (v := ?_) (a' := ?_) #[true, true, true, true, true, true, false, true, true, true, false, false, false, false, false] rfl rfl (by kernel_rfl) (fun _ _ _ h => h) (Or.inl ⟨by rfl, ?_⟩) hHeld ?_ ?_
            rotate_left
            · rintro w' ⟨s0, s1⟩
              go_simp
              with_reducible rfl
            rotate_left
            · simp only [Act.put, List.setIfInBounds_toArray, List.set_cons_zero, List.set_cons_succ, i64_w, i32_w]
              rfl
            refine take_ (i := 6) (N := some 51) (v := ?_) (a' := ?_) #[true, true, true, true, true, true, true, true, true, true, false, false, false, false, false] rfl rfl (by kernel_rfl) (fun _ _ _ h => h) (Or.inl ⟨by rfl, ?_⟩) hHeld ?_ ?_
            rotate_left
            · rintro w' ⟨s0, s1⟩
              go_simp
              with_reducible rfl
            rotate_left
            · simp only [Act.put, List.setIfInBounds_toArray, List.set_cons_zero, List.set_cons_succ, i64_w, i32_w]
              rfl
            refine one_ (i := 10) (N := some 55) #[true, true, true, true, true, true, true, true, true, true, true, false, false, false, false] rfl rfl (by kernel_rfl) (by decide) (fun K hK => ?_)
            refine goes_ Try.func56 (by kernel_rfl) rfl #[.slice A19 q c19, .int .i64 (i : Int), .int .i64 (R : Int)] (by rfl) rfl rfl (by simp only [List.map_toArray, List.map_cons, List.map_nil]; rfl) ?_
            with_reducible refine (HC.out i R _ (Kd.C_below XC.out (below_drew BI.out)) hi hr256).mono ?_
            rintro e w5 ⟨rfl, m5, rfl⟩
            refine ⟨_, rfl, ?_⟩
            refine hK.out _ _ ⟨pw_cell_below (pw_below_drewN (Below.refl _ _) _) hHeld.1, pw_cell_below (pw_below_drewN (Below.refl _ _) _) hHeld.2⟩ (fun hHeld => ?_)
            clear hK K
            refine norm_ (a' := ?_) ?_ ?_
            rotate_left
            · show Act.put _ (some 55) _ = _
              simp only [Act.put, List.setIfInBounds_toArray, List.set_cons_zero, List.set_cons_succ, i64_w, i32_w]
              rfl
            refine pure_ (i := 11) (N := some 56) (v := ?_) (a' := ?_) #[true, true, true, true, true, true, true, true, true, true, true, true, false, false, false] rfl rfl (by kernel_rfl) (fun _ _ _ h => h) (Or.inl ⟨by rfl, ?_⟩) ?_ ?_
            rotate_left
            · intro w'
              go_simp
              with_reducible rfl
            rotate_left
            · simp only [Act.put, List.setIfInBounds_toArray, List.set_cons_zero, List.set_cons_succ, i64_w, i32_w]
              rfl
            refine one_ (i := 12) (N := some 57) #[true, true, true, true, true, true, true, true, true, true, true, true, true, false, false] rfl rfl (by kernel_rfl) (by decide) (fun K hK => ?_)
            refine goes_ Try.func55 (by kernel_rfl) rfl #[.int .i64 xs, .int .i64 (wrap64 (xr + ahdN pr i R q))] (by rfl) rfl rfl (by simp only [List.map_toArray, List.map_cons, List.map_nil]; rfl) ?_
            with_reducible refine (spec_l00Max.calls xs (wrap64 (xr + ahdN pr i R q)) (lmax xs (wrap64 (xr + ahdN pr i R q))) _ (by unfold spec_l00Max.f lmax; split <;> rfl)).mono ?_
            rintro e w6 ⟨rfl, m6, rfl⟩
            refine ⟨_, rfl, ?_⟩
            refine hK.out _ _ ⟨pw_cell_below (pw_below_drewN (Below.refl _ _) _) hHeld.1, pw_cell_below (pw_below_drewN (Below.refl _ _) _) hHeld.2⟩ (fun hHeld => ?_)
            clear hK K
            refine norm_ (a' := ?_) ?_ ?_
            rotate_left
            · show Act.put _ (some 57) _ = _
              simp only [Act.put, List.setIfInBounds_toArray, List.set_cons_zero, List.set_cons_succ, i64_w, i32_w]
              rfl
            refine pure_ (i := 13) (N := some 58) (v := ?_) (a' := ?_) #[true, true, true, true, true, true, true, true, true, true, true, true, true, true, false] rfl rfl (by kernel_rfl) (fun _ _ _ h => h) (Or.inl ⟨by rfl, ?_⟩) ?_ ?_
            rotate_left
            · intro w'
              go_simp
              with_reducible rfl
            rotate_left
            · simp only [Act.put, List.setIfInBounds_toArray, List.set_cons_zero, List.set_cons_succ, i64_w, i32_w]
              rfl
            refine last_ (i := 14) (N := none) #[true, true, true, true, true, true, true, true, true, true, true, true, true, true, true] rfl rfl (by kernel_rfl) (by decide) (fun K hK => ?_)
            refine skip_ (w1 := ?_) (by rfl) rfl ?_ ?_
            rotate_left
            · go_simp
              rfl
            refine hK.out _ _ ?_
            clear hK K
            refine done_ (by kernel_rfl) ?_

            first
              | refine reletE (F := fun w' => RA w' w1.heap.size w1.heap.size (L.set s (lmax xs (wrap64 (xr + ahdN pr i R q)))) ∧ Below w1.heap.size w1 w') ⟨HRP.out _ _, (pw_below_drewN BI.out _).setCell (Nat.le_refl _) _⟩ ?_
              | refine reletI (F := fun w' => RA w' w1.heap.size w1.heap.size (L.set s (lmax xs (wrap64 (xr + ahdN pr i R q)))) ∧ Below w1.heap.size w1 w') ⟨HRP.out _ _, (pw_below_drewN BI.out _).setCell (Nat.le_refl _) _⟩ ?_
              | refine reletC (F := fun w' => RA w' w1.heap.size w1.heap.size (L.set s (lmax xs (wrap64 (xr + ahdN pr i R q)))) ∧ Below w1.heap.size w1 w') ⟨HRP.out _ _, (pw_below_drewN BI.out _).setCell (Nat.le_refl _) _⟩ ?_
            rintro w4 ⟨r4, b4⟩
            have R4 := Aside0.mk r4
            have B4 := Aside0.mk b4
            clear r4 b4
            go_wp2
            go_roundg (q - (i + 1))
            case measure => omega
            case rel => exact ⟨i + 1, by omega, by omega, by go_num, by rw [HN.out]; exact R4, B4⟩
        · have hi' : ¬ (i : Int) < (q : Int) := by omega
          obtain rfl : i = q := by omega
          go_wp2
          go_roundg (Z - (s + 1))
          case measure => omega
          case rel => exact ⟨s + 1, by omega, by omega, by omega, by go_num, ⟨by have e_ := tabS_succ pr i (s - 1); rw [show s - 1 + 1 = s by omega] at e_; rw [show s + 1 - 1 = s by omega, e_]; exact RT.out⟩, BI⟩
    · have hltz : ¬ (s : Int) < (Z : Int) := by omega
      obtain rfl : s = Z := by omega
      obtain ⟨T, hT⟩ : ∃ T, T = tabS pr q (s - 1) := ⟨_, rfl⟩
      rw [← hT] at R7
      have hh := HH.out
      unfold bestOS at hh
      rw [← HZ.out, ← hT] at hh
      obtain ⟨oz, ho, hoe⟩ := Option.map_eq_some_iff.1 hh
      obtain ⟨rfl, hr2⟩ := Prod.mk.inj hoe
      have HR2 := Lib.hid hr2
      have HO := Lib.hid ho
      clear hT hh hoe hr2 ho HH
      have RB := R7
      clear R7
      have H8 := ordO_len HO.out
      have hgw : w1.heap.size < wr.heap.size := ((Kd.R_bound RB.out).1 _ rfl).2.2.1
      have hw := wz s hZb.1 hZb.2
      have hw2 : wrap64 ((s : Int) - 1) = ((s - 1 : Nat) : Int) := wz2 s hZb.1 hZb.2
      go_upto_region 16 with (fail)
      first
        | refine reletE (F := fun w' => Kd.R (Kd.int .i64) 2 w' w1.heap.size (fun k => k ≠ w1.heap.size) (.slice (some ⟨wr.heap.size, 0, none⟩) 0 0) [] ∧ RA w' w1.heap.size w1.heap.size T ∧ Below w1.heap.size w1 w') ⟨R_empty B7.out.size (by omega), Kd.R_alloc RB.out _, below_alloc B7.out _⟩ ?_
        | refine reletI (F := fun w' => Kd.R (Kd.int .i64) 2 w' w1.heap.size (fun k => k ≠ w1.heap.size) (.slice (some ⟨wr.heap.size, 0, none⟩) 0 0) [] ∧ RA w' w1.heap.size w1.heap.size T ∧ Below w1.heap.size w1 w') ⟨R_empty B7.out.size (by omega), Kd.R_alloc RB.out _, below_alloc B7.out _⟩ ?_
        | refine reletC (F := fun w' => Kd.R (Kd.int .i64) 2 w' w1.heap.size (fun k => k ≠ w1.heap.size) (.slice (some ⟨wr.heap.size, 0, none⟩) 0 0) [] ∧ RA w' w1.heap.size w1.heap.size T ∧ Below w1.heap.size w1 w') ⟨R_empty B7.out.size (by omega), Kd.R_alloc RB.out _, below_alloc B7.out _⟩ ?_
      rintro w5 ⟨ro, rb, b5⟩
      have RO := Aside0.mk ro
      have RB := Aside0.mk rb
      have B7 := Aside0.mk b5
      clear ro rb b5 hgw
      go_loopg [12, 13] (s - 1) (fun gg v12 v13 wi => ∃ (se f : Nat) (l0 rest : List Int), se ≤ gg ∧ se ≤ s - 1 ∧ v13 = .int .i64 se ∧ ordO pr q T f se = some rest ∧ l0 ++ rest = oz ∧ Aside0 (Kd.R (Kd.int .i64) 2 wi w1.heap.size (fun k => k ≠ w1.heap.size) v12 l0) ∧ Aside0 (RA wi w1.heap.size w1.heap.size T) ∧ Aside0 (Below w1.heap.size w1 wi))
      case atStart => exact ⟨s - 1, 8, [], oz, by omega, by omega, by rw [show ((s - 1 : Nat) : Int) = (s : Int) - 1 by omega], HO.out, rfl, RO, RB, B7⟩
      case round =>
        clear RO RB B7
        obtain ⟨se, f, l0, rest, hsg, hss, rfl, ho, hl, RO, RB, BI⟩ := hrel
        by_cases h0 : 0 < se
        · have h0' : (0 : Int) < (se : Int) := by omega
          have hs : se < 256 := by omega
          obtain ⟨f', i0, l', hf, hi0, hc0, hcj, ho', hl'⟩ := ordO_step ho h0
          have HN := Lib.hid (And.intro ho' hl')
          have HC2 := Lib.hid (And.intro hc0 hcj)
          have HL := Lib.hid hl
          clear ho hc0 hcj ho' hl' hl hf
          obtain ⟨vo, rfl⟩ : ∃ vo, vo = u12 := ⟨_, rfl⟩
          go_wp2
          go_loopg [14] q (fun gg v14 wi => ∃ i : Nat, i ≤ i0 ∧ q - i ≤ gg ∧ v14 = .int .i64 i ∧ Aside0 (Kd.R (Kd.int .i64) 2 wi w1.heap.size (fun k => k ≠ w1.heap.size) vo l0) ∧ Aside0 (RA wi w1.heap.size w1.heap.size T) ∧ Aside0 (Below w1.heap.size w1 wi))
          case atStart => exact ⟨0, Nat.zero_le _, by omega, rfl, RO, RB, BI⟩
          case round =>
            clear RO RB BI
            obtain ⟨i, hii, hgi, rfl, RO, RB, BI⟩ := hrel
            have hi : i < q := by omega
            have hi' : (i : Int) < (q : Int) := by omega
            obtain ⟨R, hR⟩ : ∃ R, R = rs se i := ⟨_, rfl⟩
            obtain ⟨⟨-, hand, hbit⟩, hRs, hbR⟩ := bits_at hs (show i < 8 by omega)
            rw [← hR] at hand hRs hbR
            obtain ⟨p2, hp2, hp2b⟩ := pow_i (show i < 8 by omega)
            rw [hp2] at hand hbit
            have hu := u64_i (show i < 256 by omega)
            have hwp : wrap64 (p2 : Int) = p2 := Go.IntWalk.wrap64_in _ ⟨by omega, by omega⟩
            have hr256 : R < 256 := by omega
            by_cases hii0 : i = i0
            · subst hii0
              have hc := HC2.out.1
              unfold cnd at hc
              rw [Bool.and_eq_true] at hc
              obtain ⟨hb, heq⟩ := hc
              rw [← hR] at heq
              rw [hb] at hbR hbit
              have hbit2 : (bits BinOp.and IntKind.i64 ((se : Int) / (p2 : Int)) 1 == 0) = false := hbit
              have hRS : R < se := of_decide_eq_true hbR.symm
              have HRR := Lib.hid hR
              clear hbR hb hRs hR hbit
              have hR2 : (R : Int) < (256 : Int) := by omega
              have hS2 : (se : Int) < (256 : Int) := by omega
              obtain ⟨y0, z0⟩ := Kd.R_celln 0 RB.out (se : Int) (by omega) hS2
              obtain ⟨y1, z1⟩ := Kd.R_celln 0 RB.out (R : Int) (by omega) hR2
              rw [Int.toNat_natCast] at y0 z0 y1 z1
              have hx0 : rdOf 0 T (se : Int) = T.getD se 0 := rfl
              have hx1 : rdOf 0 T (R : Int) = T.getD R 0 := rfl
              rw [hx0] at y0
              rw [hx1] at y1
              clear hx0 hx1
              generalize T.getD se 0 = xs at y0 heq
              generalize T.getD R 0 = xr at y1 heq
              rw [Int.add_comm] at heq
              have hne : (wrap64 (xr + ahdN pr i R q) != xs) = false := by unfold bne; rw [heq]; rfl
              clear heq
              have hs0 : decide ((0 : Int) ≤ (se : Int)) = true := decide_eq_true (by omega)
              have hs1 : decide ((se : Int) < (256 : Int)) = true := decide_eq_true hS2
              have hR0 : decide ((0 : Int) ≤ (R : Int)) = true := decide_eq_true (by omega)
              have hR1 : decide ((R : Int) < (256 : Int)) = true := decide_eq_true hR2
              go_wp2
              refine start_ (n := 28) (S := fun w' => w'.cell? ⟨w1.heap.size, se, none⟩ = some (.int .i64 xs) ∧ w'.cell? ⟨w1.heap.size, R, none⟩ = some (.int .i64 xr)) (ds := []) #[false, false, false, false, false, false, false, false, false, false, false, false, false, false, false, false, false, false, false, false, false, false, false, false, false, false, false, false] (by kernel_rfl) rfl rfl ⟨(show wr.drew.cell? ⟨w1.heap.size, se, none⟩ = some (.int .i64 xs) from y0), (show wr.drew.cell? ⟨w1.heap.size, R, none⟩ = some (.int .i64 xr) from y1)⟩ (fun hHeld => ?_)
              refine pure_ (i := 0) (N := some 64) (v := ?_) (a' := ?_) #[true, false, false, false, false, false, false, false, false, false, false, false, false, false, false, false, false, false, false, false, false, false, false, false, false, false, false, false] rfl rfl (by kernel_rfl) (fun _ _ _ h => h) (Or.inl ⟨by rfl, ?_⟩) ?_ ?_
              rotate_left
              · intro w'
                go_simp
                with_reducible rfl
              rotate_left
              · simp only [Act.put, List.setIfInBounds_toArray, List.set_cons_zero, List.set_cons_succ, i64_w, i32_w]
                rfl
              refine pure_ (i := 1) (N := some 65) (v := ?_) (a' := ?_) #[true, true, false, false, false, false, false, false, false, false, false, false, false, false, false, false, false, false, false, false, false, false, false, false, false, false, false, false] rfl rfl (by kernel_rfl) (fun _ _ _ h => h) (Or.inl ⟨by rfl, ?_⟩) ?_ ?_
              rotate_left
              · intro w'
                go_simp
                with_reducible rfl
              rotate_left
              · simp only [Act.put, List.setIfInBounds_toArray, List.set_cons_zero, List.set_cons_succ, i64_w, i32_w]
                rfl
              refine pure_ (i := 2) (N := some 66) (v := ?_) (a' := ?_) #[true, true, true, false, false, false, false, false, false, false, false, false, false, false, false, false, false, false, false, false, false, false, false, false, false, false, false, false] rfl rfl (by kernel_rfl) (fun _ _ _ h => h) (Or.inl ⟨by rfl, ?_⟩) ?_ ?_
              rotate_left
              · intro w'
                go_simp
                with_reducible rfl
              rotate_left
              · simp only [Act.put, List.setIfInBounds_toArray, List.set_cons_zero, List.set_cons_succ, i64_w, i32_w]
                rfl
              refine pure_ (i := 3) (N := some 67) (v := ?_) (a' := ?_) #[true, true, true, true, false, false, false, false, false, false, false, false, false, false, false, false, false, false, false, false, false, false, false, false, false, false, false, false] rfl rfl (by kernel_rfl) (fun _ _ _ h => h) (Or.inl ⟨by rfl, ?_⟩) ?_ ?_
              rotate_left
              · intro w'
                go_simp
                with_reducible rfl
              rotate_left
              · simp only [Act.put, List.setIfInBounds_toArray, List.set_cons_zero, List.set_cons_succ, i64_w, i32_w]
                rfl
              refine pure_ (i := 4) (N := some 68) (v := ?_) (a' := ?_) #[true, true, true, true, true, false, false, false, false, false, false, false, false, false, false, false, false, false, false, false, false, false, false, false, false, false, false, false] rfl rfl (by kernel_rfl) (fun _ _ _ h => h) (Or.inl ⟨by rfl, ?_⟩) ?_ ?_
              rotate_left
              · intro w'
                go_simp
                with_reducible rfl
              rotate_left
              · simp only [Act.put, List.setIfInBounds_toArray, List.set_cons_zero, List.set_cons_succ, i64_w, i32_w]
                rfl
              refine pure_ (i := 5) (N := some 69) (v := ?_) (a' := ?_) #[true, true, true, true, true, true, false, false, false, false, false, false, false, false, false, false, false, false, false, false, false, false, false, false, false, false, false, false] rfl rfl (by kernel_rfl) (fun _ _ _ h => h) (Or.inl ⟨by rfl, ?_⟩) ?_ ?_
              rotate_left
              · intro w'
                go_simp
                with_reducible rfl
              rotate_left
              · simp only [Act.put, List.setIfInBounds_toArray, List.set_cons_zero, List.set_cons_succ, i64_w, i32_w]
                rfl
              refine pure_ (i := 6) (N := some 70) (v := ?_) (a' := ?_) #[true, true, true, true, true, true, true, false, false, false, false, false, false, false, false, false, false, false, false, false, false, false, false, false, false, false, false, false] rfl rfl (by kernel_rfl) (fun _ _ _ h => h) (Or.inl ⟨by rfl, ?_⟩) ?_ ?_
              rotate_left
              · intro w'
                go_simp
                with_reducible rfl
              rotate_left
              · simp only [Act.put, List.setIfInBounds_toArray, List.set_cons_zero, List.set_cons_succ, i64_w, i32_w]
                rfl
              refine pure_ (i := 7) (N := some 71) (v := ?_) (a' := ?_) #[true, true, true, true, true, true, true, true, false, false, false, false, false, false, false, false, false, false, false, false, false, false, false, false, false, false, false, false] rfl rfl (by kernel_rfl) (fun _ _ _ h => h) (Or.inl ⟨by rfl, ?_⟩) ?_ ?_
              rotate_left
              · intro w'
                go_simp
                with_reducible rfl
              rotate_left
              · simp only [Act.put, List.setIfInBounds_toArray, List.set_cons_zero, List.set_cons_succ, i64_w, i32_w]
                rfl
              refine pure_ (i := 8) (N := some 72) (v := ?_) (a' := ?_) #[true, true, true, true, true, true, true, true, true, false, false, false, false, false, false, false, false, false, false, false, false, false, false, false, false, false, false, false] rfl rfl (by kernel_rfl) (fun _ _ _ h => h) (Or.inl ⟨by rfl, ?_⟩) ?_ ?_
              rotate_left
              · intro w'
                go_simp
                with_reducible rfl
              rotate_left
              · simp only [Act.put, List.setIfInBounds_toArray, List.set_cons_zero, List.set_cons_succ, i64_w, i32_w]
                rfl
              refine pure_ (i := 9) (N := some 73) (v := ?_) (a' := ?_) #[true, true, true, true, true, true, true, true, true, true, false, false, false, false, false, false, false, false, false, false, false, false, false, false, false, false, false, false] rfl rfl (by kernel_rfl) (fun _ _ _ h => h) (Or.inl ⟨by rfl, ?_⟩) ?_ ?_
              rotate_left
              · intro w'
                go_simp
                with_reducible rfl
              rotate_left
              · simp only [Act.put, List.setIfInBounds_toArray, List.set_cons_zero, List.set_cons_succ, i64_w, i32_w]
                rfl
              refine pure_ (i := 10) (N := some 74) (v := ?_) (a' := ?_) #[true, true, true, true, true, true, true, true, true, true, true, false, false, false, false, false, false, false, false, false, false, false, false, false, false, false, false, false] rfl rfl (by kernel_rfl) (fun _ _ _ h => h) (Or.inl ⟨by rfl, ?_⟩) ?_ ?_
              rotate_left
              · intro w'
                go_simp
                with_reducible rfl
              rotate_left
              · simp only [Act.put, List.setIfInBounds_toArray, List.set_cons_zero, List.set_cons_succ, i64_w, i32_w]
                rfl
              refine pure_ (i := 11) (N := some 75) (v := ?_) (a' := ?_) #[true, true, true, true, true, true, true, true, true, true, true, true, false, false, false, false, false, false, false, false, false, false, false, false, false, false, false, false] rfl rfl (by kernel_rfl) (fun _ _ _ h => h) (Or.inl ⟨by rfl, ?_⟩) ?_ ?_
              rotate_left
              · intro w'
                go_simp
                with_reducible rfl
              rotate_left
              · simp only [Act.put, List.setIfInBounds_toArray, List.set_cons_zero, List.set_cons_succ, i64_w, i32_w]
                rfl
              refine pure_ (i := 12) (N := some 76) (v := ?_) (a' := ?_) #[true, true, true, true, true, true, true, true, true, true, true, true, true, false, false, false, false, false, false, false, false, false, false, false, false, false, false, false] rfl rfl (by kernel_rfl) (fun _ _ _ h => h) (Or.inl ⟨by rfl, ?_⟩) ?_ ?_
              rotate_left
              · intro w'
                go_simp
                with_reducible rfl
              rotate_left
              · simp only [Act.put, List.setIfInBounds_toArray, List.set_cons_zero, List.set_cons_succ, i64_w, i32_w]
                rfl
              refine pure_ (i := 14) (N := some 78) (v := ?_) (a' := ?_) #[true, true, true, true, true, true, true, true, true, true, true, true, true, false, true, false, false, false, false, false, false, false, false, false, false, false, false, false] rfl rfl (by kernel_rfl) (fun _ _ _ h => h) (Or.inl ⟨by rfl, ?_⟩) ?_ ?_
              rotate_left
              · intro w'
                go_simp
                with_reducible rfl
              rotate_left
              · simp only [Act.put, List.setIfInBounds_toArray, List.set_cons_zero, List.set_cons_succ, i64_w, i32_w]
                rfl
              refine pure_ (i := 15) (N := some 79) (v := ?_) (a' := ?_) #[true, true, true, true, true, true, true, true, true, true, true, true, true, false, true, true, false, false, false, false, false, false, false, false, false, false, false, false] rfl rfl (by kernel_rfl) (fun _ _ _ h => h) (Or.inl ⟨by rfl, ?_⟩) ?_ ?_
              rotate_left
              · intro w'
                go_simp
                with_reducible rfl
              rotate_left
              · simp only [Act.put, List.setIfInBounds_toArray, List.set_cons_zero, List.set_cons_succ, i64_w, i32_w]
                rfl
              refine pure_ (i := 16) (N := some 80) (v := ?_) (a' := ?_) #[true, true, true, true, true, true, true, true, true, true, true, true, true, false, true, true, true, false, false, false, false, false, false, false, false, false, false, false] rfl rfl (by kernel_rfl) (fun _ _ _ h => h) (Or.inl ⟨by rfl, ?_⟩) ?_ ?_
              rotate_left
              · intro w'
                go_simp
                with_reducible rfl
              rotate_left
              · simp only [Act.put, List.setIfInBounds_toArray, List.set_cons_zero, List.set_cons_succ, i64_w, i32_w]
                rfl
              refine pure_ (i := 17) (N := some 81) (v := ?_) (a' := ?_) #[true, true, true, true, true, true, true, true, true, true, true, true, true, false, true, true, true, true, false, false, false, false, false, false, false, false, false, false] rfl rfl (by kernel_rfl) (fun _ _ _ h => h) (Or.inl ⟨by rfl, ?_⟩) ?_ ?_
              rotate_left
              · intro w'
                go_simp
                with_reducible rfl
              rotate_left
              · simp only [Act.put, List.setIfInBounds_toArray, List.set_cons_zero, List.set_cons_succ, i64_w, i32_w]
                rfl
              refine pure_ (i := 18) (N := some 82) (v := ?_) (a' := ?_) #[true, true, true, true, true, true, true, true, true, true, true, true, true, false, true, true, true, true, true, false, false, false, false, false, false, false, false, false] rfl rfl (by kernel_rfl) (fun _ _ _ h => h) (Or.inl ⟨by rfl, ?_⟩) ?_ ?_
              rotate_left
              · intro w'
                go_simp
                with_reducible rfl
              rotate_left
              · simp only [Act.put, List.setIfInBounds_toArray, List.set_cons_zero, List.set_cons_succ, i64_w, i32_w]
                rfl
              refine pure_ (i := 19) (N := some 83) (v := ?_) (a' := ?_) #[true, true, true, true, true, true, true, true, true, true, true, true, true, false, true, true, true, true, true, true, false, false, false, false, false, false, false, false] rfl rfl (by kernel_rfl) (fun _ _ _ h => h) (Or.inl ⟨by rfl, ?_⟩) ?_ ?_
              rotate_left
              · intro w'
                go_simp
                with_reducible rfl
              rotate_left
              · simp only [Act.put, List.setIfInBounds_toArray, List.set_cons_zero, List.set_cons_succ, i64_w, i32_w]
                rfl
              refine pure_ (i := 20) (N := some 84) (v := ?_) (a' := ?_) #[true, true, true, true, true, true, true, true, true, true, true, true, true, false, true, true, true, true, true, true, true, false, false, false, false, false, false, false] rfl rfl (by kernel_rfl) (fun _ _ _ h => h) (Or.inl ⟨by rfl, ?_⟩) ?_ ?_
              rotate_left
              · intro w'
                go_simp
                with_reducible rfl
              rotate_left
              · simp only [Act.put, List.setIfInBounds_toArray, List.set_cons_zero, List.set_cons_succ, i64_w, i32_w]
                rfl
              refine pure_ (i := 23) (N := some 87) (v := ?_) (a' := ?_) #[true, true, true, true, true, true, true, true, true, true, true, true, true, false, true, true, true, true, true, true, true, false, false, true, false, false, false, false] rfl rfl (by kernel_rfl) (fun _ _ _ h => h) (Or.inl ⟨by rfl, ?_⟩) ?_ ?_
              rotate_left
              · intro w'
                go_simp
                with_reducible rfl
              rotate_left
              · simp only [Act.put, List.setIfInBounds_toArray, List.set_cons_zero, List.set_cons_succ, i64_w, i32_w]
                rfl
              refine pure_ (i := 24) (N := some 88) (v := ?_) (a' := ?_) #[true, true, true, true, true, true, true, true, true, true, true, true, true, false, true, true, true, true, true, true, true, false, false, true, true, false, false, false] rfl rfl (by kernel_rfl) (fun _ _ _ h => h) (Or.inl ⟨by rfl, ?_⟩) ?_ ?_
              rotate_left
              · intro w'
                go_simp
                with_reducible rfl
              rotate_left
              · simp only [Act.put, List.setIfInBounds_toArray, List.set_cons_zero, List.set_cons_succ, i64_w, i32_w]
                rfl
              refine take_ (i := 13) (N := some 77) (v := ?_) (a' := ?_) #[true, true, true, true, true, true, true, true, true, true, true, true, true, true, true, true, true, true, true, true, true, false, false, true, true, false, false, false] rfl rfl (by kernel_rfl) (fun _ _ _ h => h) (Or.inl ⟨by rfl, ?_⟩) hHeld ?_ ?_
              rotate_left
              · rintro w' ⟨s0, s1⟩
                go_simp
                with_reducible rfl
              rotate_left
              · simp only [Act.put, List.setIfInBounds_toArray, List.set_cons_zero, List.set_cons_succ, i64_w, i32_w]
                rfl
              refine take_ (i := 25) (N := some 89) (v := ?_) (a' := ?_) #[true, true, true, true, true, true, true, true, true, true, true, true, true, true, true, true, true, true, true, true, true, false, false, true, true, true, false, false] rfl rfl (by kernel_rfl) (fun _ _ _ h => h) (Or.inl ⟨by rfl, ?_⟩) hHeld ?_ ?_
              rotate_left
              · rintro w' ⟨s0, s1⟩
                go_simp
                with_reducible rfl
              rotate_left
              · simp only [Act.put, List.setIfInBounds_toArray, List.set_cons_zero, List.set_cons_succ, i64_w, i32_w]
                rfl
              refine one_ (i := 21) (N := some 85) #[true, true, true, true, true, true, true, true, true, true, true, true, true, true, true, true, true, true, true, true, true, true, false, true, true, true, false, false] rfl rfl (by kernel_rfl) (by decide) (fun K hK => ?_)
              refine goes_ Try.func56 (by kernel_rfl) rfl #[.slice A19 q c19, .int .i64 (i : Int), .int .i64 (R : Int)] (by rfl) rfl rfl (by simp only [List.map_toArray, List.map_cons, List.map_nil]; rfl) ?_
              with_reducible refine (HC.out i R _ (Kd.C_below XC.out (below_drew BI.out)) hi hr256).mono ?_
              rintro e w5 ⟨rfl, m5, rfl⟩
              refine ⟨_, rfl, ?_⟩
              refine hK.out _ _ ⟨pw_cell_below (pw_below_drewN (Below.refl _ _) _) hHeld.1, pw_cell_below (pw_below_drewN (Below.refl _ _) _) hHeld.2⟩ (fun hHeld => ?_)
              clear hK K
              refine norm_ (a' := ?_) ?_ ?_
              rotate_left
              · show Act.put _ (some 85) _ = _
                simp only [Act.put, List.setIfInBounds_toArray, List.set_cons_zero, List.set_cons_succ, i64_w, i32_w]
                rfl
              refine pure_ (i := 22) (N := some 86) (v := ?_) (a' := ?_) #[true, true, true, true, true, true, true, true, true, true, true, true, true, true, true, true, true, true, true, true, true, true, true, true, true, true, false, false] rfl rfl (by kernel_rfl) (fun _ _ _ h => h) (Or.inl ⟨by rfl, ?_⟩) ?_ ?_
              rotate_left
              · intro w'
                go_simp
                with_reducible rfl
              rotate_left
              · simp only [Act.put, List.setIfInBounds_toArray, List.set_cons_zero, List.set_cons_succ, i64_w, i32_w]
                rfl
              refine pure_ (i := 26) (N := some 90) (v := ?_) (a' := ?_) #[true, true, true, true, true, true, true, true, true, true, true, true, true, true, true, true, true, true, true, true, true, true, true, true, true, true, true, false] rfl rfl (by kernel_rfl) (fun _ _ _ h => h) (Or.inl ⟨by rfl, ?_⟩) ?_ ?_
              rotate_left
              · intro w'
                go_simp
                with_reducible rfl
              rotate_left
              · simp only [Act.put, List.setIfInBounds_toArray, List.set_cons_zero, List.set_cons_succ, i64_w, i32_w]
                rfl
              refine pure_ (i := 27) (N := some 91) (v := ?_) (a' := ?_) #[true, true, true, true, true, true, true, true, true, true, true, true, true, true, true, true, true, true, true, true, true, true, true, true, true, true, true, true] rfl rfl (by kernel_rfl) (fun _ _ _ h => h) (Or.inl ⟨by rfl, ?_⟩) ?_ ?_
              rotate_left
              · intro w'
                go_simp
                with_reducible rfl
              rotate_left
              · simp only [Act.put, List.setIfInBounds_toArray, List.set_cons_zero, List.set_cons_succ, i64_w, i32_w]
                rfl
              refine done_ (by kernel_rfl) ?_

              first
                | refine reletE (F := fun w' => Kd.R (Kd.int .i64) 2 w' w1.heap.size (fun k => k ≠ w1.heap.size) vo l0 ∧ RA w' w1.heap.size w1.heap.size T ∧ Below w1.heap.size w1 w') ⟨Kd.R_drewN (Kd.R_drew RO.out) _, Kd.R_drewN (Kd.R_drew RB.out) _, pw_below_drewN (below_drew BI.out) _⟩ ?_
                | refine reletI (F := fun w' => Kd.R (Kd.int .i64) 2 w' w1.heap.size (fun k => k ≠ w1.heap.size) vo l0 ∧ RA w' w1.heap.size w1.heap.size T ∧ Below w1.heap.size w1 w') ⟨Kd.R_drewN (Kd.R_drew RO.out) _, Kd.R_drewN (Kd.R_drew RB.out) _, pw_below_drewN (below_drew BI.out) _⟩ ?_
                | refine reletC (F := fun w' => Kd.R (Kd.int .i64) 2 w' w1.heap.size (fun k => k ≠ w1.heap.size) vo l0 ∧ RA w' w1.heap.size w1.heap.size T ∧ Below w1.heap.size w1 w') ⟨Kd.R_drewN (Kd.R_drew RO.out) _, Kd.R_drewN (Kd.R_drew RB.out) _, pw_below_drewN (below_drew BI.out) _⟩ ?_
              rintro w6 ⟨ro, rb, b6⟩
              have RO := Aside0.mk ro
              have RB := Aside0.mk rb
              have BI := Aside0.mk b6
              clear ro rb b6
              have hl0 : l0.length ≤ 8 := by
                have := congrArg List.length HL.out
                rw [List.length_append] at this
                omega
              have hgw : w1.heap.size < w6.heap.size := ((Kd.R_bound RB.out).1 _ rfl).2.2.1
              have hvo : ∀ k, k = w1.heap.size → some k ≠ (vo : Value).ownBlock := fun k hk e => RO.out.1 k e.symm hk
              clear y0 y1 z0 z1 hs0 hs1 hR0 hR1 hne hbit2
              go_wp2_with (first | ((with_reducible refine gate_builtin (b := .append) (xs := #[.tmp 94, .tmp 96]) rfl ?_); at_builtin; refine Kd.R_append (Kd.int .i64) (w0 := w1) (W := w6) w1.heap.size rfl (.tmp 94) (.tmp 96) 24 2 (.int .i64 0) 8 rfl Try.underlying24 info2 rfl (by decide) (by omega) vo l0 (i : Int) [.int .i64 (i : Int)] (fun k => k ≠ w1.heap.size) (fun _ => False) rfl rfl ?aP (fun _ hk => hk.elim) ?aF ?aO ?aB ?aS ?aL ?_; (case aP => exact rfl); (case aB => exact BI.out); (case aF => exact fun k hk e => absurd (show w6.heap.size ≤ k from hk) (by omega)); (case aO => exact RO.out); (case aS => exact BI.out.size); (case aL => omega); intro v97 w5 ho hb hg hat; have RO2 := Aside0.mk ho; have B2 := Aside0.mk hb; have RB2 := Aside0.mk (Kd.R_grown RB.out hg hvo); clear ho hb hg hat RO RB BI))
              go_roundg R
              case measure => omega
              case rel => exact ⟨R, f', l0 ++ [(i : Int)], l', Nat.le_refl _, by omega, rfl, by rw [HRR.out]; exact HN.out.1, by rw [List.append_assoc, List.singleton_append, ← HN.out.2]; exact HL.out, RO2, RB2, B2⟩
            · have hc := HC2.out.2 i (by omega)
              unfold cnd at hc
              rw [← hR] at hc
              clear hR
              cases hb : se.testBit i
              · rw [hb] at hbR hc hbit
                have hbit2 : (bits BinOp.and IntKind.i64 ((se : Int) / (p2 : Int)) 1 == 0) = true := hbit
                clear hbR hb hRs hc hbit
                go_wp2
                refine start_ (n := 28) (S := fun w' => True) (ds := []) #[false, false, false, false, false, false, false, false, false, false, false, false, false, false, false, false, false, false, false, false, false, false, false, false, false, false, false, false] (by kernel_rfl) rfl rfl trivial (fun hHeld => ?_)
                refine pure_ (i := 0) (N := some 64) (v := ?_) (a' := ?_) #[true, false, false, false, false, false, false, false, false, false, false, false, false, false, false, false, false, false, false, false, false, false, false, false, false, false, false, false] rfl rfl (by kernel_rfl) (fun _ _ _ h => h) (Or.inl ⟨by rfl, ?_⟩) ?_ ?_
                rotate_left
                · intro w'
                  go_simp
                  with_reducible rfl
                rotate_left
                · simp only [Act.put, List.setIfInBounds_toArray, List.set_cons_zero, List.set_cons_succ, i64_w, i32_w]
                  rfl
                refine pure_ (i := 1) (N := some 65) (v := ?_) (a' := ?_) #[true, true, false, false, false, false, false, false, false, false, false, false, false, false, false, false, false, false, false, false, false, false, false, false, false, false, false, false] rfl rfl (by kernel_rfl) (fun _ _ _ h => h) (Or.inl ⟨by rfl, ?_⟩) ?_ ?_
                rotate_left
                · intro w'
                  go_simp
                  with_reducible rfl
                rotate_left
                · simp only [Act.put, List.setIfInBounds_toArray, List.set_cons_zero, List.set_cons_succ, i64_w, i32_w]
                  rfl
                refine pure_ (i := 2) (N := some 66) (v := ?_) (a' := ?_) #[true, true, true, false, false, false, false, false, false, false, false, false, false, false, false, false, false, false, false, false, false, false, false, false, false, false, false, false] rfl rfl (by kernel_rfl) (fun _ _ _ h => h) (Or.inl ⟨by rfl, ?_⟩) ?_ ?_
                rotate_left
                · intro w'
                  go_simp
                  with_reducible rfl
                rotate_left
                · simp only [Act.put, List.setIfInBounds_toArray, List.set_cons_zero, List.set_cons_succ, i64_w, i32_w]
                  rfl
                refine pure_ (i := 3) (N := some 67) (v := ?_) (a' := ?_) #[true, true, true, true, false, false, false, false, false, false, false, false, false, false, false, false, false, false, false, false, false, false, false, false, false, false, false, false] rfl rfl (by kernel_rfl) (fun _ _ _ h => h) (Or.inl ⟨by rfl, ?_⟩) ?_ ?_
                rotate_left
                · intro w'
                  go_simp
                  with_reducible rfl
                rotate_left
                · simp only [Act.put, List.setIfInBounds_toArray, List.set_cons_zero, List.set_cons_succ, i64_w, i32_w]
                  rfl
                refine pure_ (i := 4) (N := some 68) (v := ?_) (a' := ?_) #[true, true, true, true, true, false, false, false, false, false, false, false, false, false, false, false, false, false, false, false, false, false, false, false, false, false, false, false] rfl rfl (by kernel_rfl) (fun _ _ _ h => h) (Or.inl ⟨by rfl, ?_⟩) ?_ ?_
                rotate_left
                · intro w'
                  go_simp
                  with_reducible rfl
                rotate_left
                · simp only [Act.put, List.setIfInBounds_toArray, List.set_cons_zero, List.set_cons_succ, i64_w, i32_w]
                  rfl
                refine pure_ (i := 5) (N := some 69) (v := ?_) (a' := ?_) #[true, true, true, true, true, true, false, false, false, false, false, false, false, false, false, false, false, false, false, false, false, false, false, false, false, false, false, false] rfl rfl (by kernel_rfl) (fun _ _ _ h => h) (Or.inl ⟨by rfl, ?_⟩) ?_ ?_
                rotate_left
                · intro w'
                  go_simp
                  with_reducible rfl
                rotate_left
                · simp only [Act.put, List.setIfInBounds_toArray, List.set_cons_zero, List.set_cons_succ, i64_w, i32_w]
                  rfl
                refine pure_ (i := 6) (N := some 70) (v := ?_) (a' := ?_) #[true, true, true, true, true, true, true, false, false, false, false, false, false, false, false, false, false, false, false, false, false, false, false, false, false, false, false, false] rfl rfl (by kernel_rfl) (fun _ _ _ h => h) (Or.inl ⟨by rfl, ?_⟩) ?_ ?_
                rotate_left
                · intro w'
                  go_simp
                  with_reducible rfl
                rotate_left
                · simp only [Act.put, List.setIfInBounds_toArray, List.set_cons_zero, List.set_cons_succ, i64_w, i32_w]
                  rfl
                refine pure_ (i := 7) (N := some 71) (v := undef) (a' := ?_) #[true, true, true, true, true, true, true, true, false, false, false, false, false, false, false, false, false, false, false, false, false, false, false, false, false, false, false, false] rfl rfl (by kernel_rfl) (fun _ _ _ h => h) (Or.inr ⟨by rfl, rfl⟩) ?_ ?_
                rotate_left
                · simp only [Act.put, List.setIfInBounds_toArray, List.set_cons_zero, List.set_cons_succ, i64_w, i32_w]
                  rfl
                refine pure_ (i := 8) (N := some 72) (v := undef) (a' := ?_) #[true, true, true, true, true, true, true, true, true, false, false, false, false, false, false, false, false, false, false, false, false, false, false, false, false, false, false, false] rfl rfl (by kernel_rfl) (fun _ _ _ h => h) (Or.inr ⟨by rfl, rfl⟩) ?_ ?_
                rotate_left
                · simp only [Act.put, List.setIfInBounds_toArray, List.set_cons_zero, List.set_cons_succ, i64_w, i32_w]
                  rfl
                refine pure_ (i := 9) (N := some 73) (v := undef) (a' := ?_) #[true, true, true, true, true, true, true, true, true, true, false, false, false, false, false, false, false, false, false, false, false, false, false, false, false, false, false, false] rfl rfl (by kernel_rfl) (fun _ _ _ h => h) (Or.inr ⟨by rfl, rfl⟩) ?_ ?_
                rotate_left
                · simp only [Act.put, List.setIfInBounds_toArray, List.set_cons_zero, List.set_cons_succ, i64_w, i32_w]
                  rfl
                refine pure_ (i := 10) (N := some 74) (v := undef) (a' := ?_) #[true, true, true, true, true, true, true, true, true, true, true, false, false, false, false, false, false, false, false, false, false, false, false, false, false, false, false, false] rfl rfl (by kernel_rfl) (fun _ _ _ h => h) (Or.inr ⟨by rfl, rfl⟩) ?_ ?_
                rotate_left
                · simp only [Act.put, List.setIfInBounds_toArray, List.set_cons_zero, List.set_cons_succ, i64_w, i32_w]
                  rfl
                refine pure_ (i := 11) (N := some 75) (v := undef) (a' := ?_) #[true, true, true, true, true, true, true, true, true, true, true, true, false, false, false, false, false, false, false, false, false, false, false, false, false, false, false, false] rfl rfl (by kernel_rfl) (fun _ _ _ h => h) (Or.inr ⟨by rfl, rfl⟩) ?_ ?_
                rotate_left
                · simp only [Act.put, List.setIfInBounds_toArray, List.set_cons_zero, List.set_cons_succ, i64_w, i32_w]
                  rfl
                refine pure_ (i := 12) (N := some 76) (v := undef) (a' := ?_) #[true, true, true, true, true, true, true, true, true, true, true, true, true, false, false, false, false, false, false, false, false, false, false, false, false, false, false, false] rfl rfl (by kernel_rfl) (fun _ _ _ h => h) (Or.inr ⟨by rfl, rfl⟩) ?_ ?_
                rotate_left
                · simp only [Act.put, List.setIfInBounds_toArray, List.set_cons_zero, List.set_cons_succ, i64_w, i32_w]
                  rfl
                refine pure_ (i := 13) (N := some 77) (v := undef) (a' := ?_) #[true, true, true, true, true, true, true, true, true, true, true, true, true, true, false, false, false, false, false, false, false, false, false, false, false, false, false, false] rfl rfl (by kernel_rfl) (fun _ _ _ h => h) (Or.inr ⟨by rfl, rfl⟩) ?_ ?_
                rotate_left
                · simp only [Act.put, List.setIfInBounds_toArray, List.set_cons_zero, List.set_cons_succ, i64_w, i32_w]
                  rfl
                refine pure_ (i := 14) (N := some 78) (v := undef) (a' := ?_) #[true, true, true, true, true, true, true, true, true, true, true, true, true, true, true, false, false, false, false, false, false, false, false, false, false, false, false, false] rfl rfl (by kernel_rfl) (fun _ _ _ h => h) (Or.inr ⟨by rfl, rfl⟩) ?_ ?_
                rotate_left
                · simp only [Act.put, List.setIfInBounds_toArray, List.set_cons_zero, List.set_cons_succ, i64_w, i32_w]
                  rfl
                refine pure_ (i := 15) (N := some 79) (v := undef) (a' := ?_) #[true, true, true, true, true, true, true, true, true, true, true, true, true, true, true, true, false, false, false, false, false, false, false, false, false, false, false, false] rfl rfl (by kernel_rfl) (fun _ _ _ h => h) (Or.inr ⟨by rfl, rfl⟩) ?_ ?_
                rotate_left
                · simp only [Act.put, List.setIfInBounds_toArray, List.set_cons_zero, List.set_cons_succ, i64_w, i32_w]
                  rfl
                refine pure_ (i := 16) (N := some 80) (v := undef) (a' := ?_) #[true, true, true, true, true, true, true, true, true, true, true, true, true, true, true, true, true, false, false, false, false, false, false, false, false, false, false, false] rfl rfl (by kernel_rfl) (fun _ _ _ h => h) (Or.inr ⟨by rfl, rfl⟩) ?_ ?_
                rotate_left
                · simp only [Act.put, List.setIfInBounds_toArray, List.set_cons_zero, List.set_cons_succ, i64_w, i32_w]
                  rfl
                refine pure_ (i := 17) (N := some 81) (v := undef) (a' := ?_) #[true, true, true, true, true, true, true, true, true, true, true, true, true, true, true, true, true, true, false, false, false, false, false, false, false, false, false, false] rfl rfl (by kernel_rfl) (fun _ _ _ h => h) (Or.inr ⟨by rfl, rfl⟩) ?_ ?_
                rotate_left
                · simp only [Act.put, List.setIfInBounds_toArray, List.set_cons_zero, List.set_cons_succ, i64_w, i32_w]
                  rfl
                refine pure_ (i := 18) (N := some 82) (v := undef) (a' := ?_) #[true, true, true, true, true, true, true, true, true, true, true, true, true, true, true, true, true, true, true, false, false, false, false, false, false, false, false, false] rfl rfl (by kernel_rfl) (fun _ _ _ h => h) (Or.inr ⟨by rfl, rfl⟩) ?_ ?_
                rotate_left
                · simp only [Act.put, List.setIfInBounds_toArray, List.set_cons_zero, List.set_cons_succ, i64_w, i32_w]
                  rfl
                refine pure_ (i := 19) (N := some 83) (v := undef) (a' := ?_) #[true, true, true, true, true, true, true, true, true, true, true, true, true, true, true, true, true, true, true, true, false, false, false, false, false, false, false, false] rfl rfl (by kernel_rfl) (fun _ _ _ h => h) (Or.inr ⟨by rfl, rfl⟩) ?_ ?_
                rotate_left
                · simp only [Act.put, List.setIfInBounds_toArray, List.set_cons_zero, List.set_cons_succ, i64_w, i32_w]
                  rfl
                refine pure_ (i := 20) (N := some 84) (v := undef) (a' := ?_) #[true, true, true, true, true, true, true, true, true, true, true, true, true, true, true, true, true, true, true, true, true, false, false, false, false, false, false, false] rfl rfl (by kernel_rfl) (fun _ _ _ h => h) (Or.inr ⟨by rfl, rfl⟩) ?_ ?_
                rotate_left
                · simp only [Act.put, List.setIfInBounds_toArray, List.set_cons_zero, List.set_cons_succ, i64_w, i32_w]
                  rfl
                refine pure_ (i := 21) (N := some 85) (v := undef) (a' := ?_) #[true, true, true, true, true, true, true, true, true, true, true, true, true, true, true, true, true, true, true, true, true, true, false, false, false, false, false, false] rfl rfl (by kernel_rfl) (fun _ _ _ h => h) (Or.inr ⟨by rfl, rfl⟩) ?_ ?_
                rotate_left
                · simp only [Act.put, List.setIfInBounds_toArray, List.set_cons_zero, List.set_cons_succ, i64_w, i32_w]
                  rfl
                refine pure_ (i := 22) (N := some 86) (v := undef) (a' := ?_) #[true, true, true, true, true, true, true, true, true, true, true, true, true, true, true, true, true, true, true, true, true, true, true, false, false, false, false, false] rfl rfl (by kernel_rfl) (fun _ _ _ h => h) (Or.inr ⟨by rfl, rfl⟩) ?_ ?_
                rotate_left
                · simp only [Act.put, List.setIfInBounds_toArray, List.set_cons_zero, List.set_cons_succ, i64_w, i32_w]
                  rfl
                refine pure_ (i := 23) (N := some 87) (v := undef) (a' := ?_) #[true, true, true, true, true, true, true, true, true, true, true, true, true, true, true, true, true, true, true, true, true, true, true, true, false, false, false, false] rfl rfl (by kernel_rfl) (fun _ _ _ h => h) (Or.inr ⟨by rfl, rfl⟩) ?_ ?_
                rotate_left
                · simp only [Act.put, List.setIfInBounds_toArray, List.set_cons_zero, List.set_cons_succ, i64_w, i32_w]
                  rfl
                refine pure_ (i := 24) (N := some 88) (v := undef) (a' := ?_) #[true, true, true, true, true, true, true, true, true, true, true, true, true, true, true, true, true, true, true, true, true, true, true, true, true, false, false, false] rfl rfl (by kernel_rfl) (fun _ _ _ h => h) (Or.inr ⟨by rfl, rfl⟩) ?_ ?_
                rotate_left
                · simp only [Act.put, List.setIfInBounds_toArray, List.set_cons_zero, List.set_cons_succ, i64_w, i32_w]
                  rfl
                refine pure_ (i := 25) (N := some 89) (v := undef) (a' := ?_) #[true, true, true, true, true, true, true, true, true, true, true, true, true, true, true, true, true, true, true, true, true, true, true, true, true, true, false, false] rfl rfl (by kernel_rfl) (fun _ _ _ h => h) (Or.inr ⟨by rfl, rfl⟩) ?_ ?_
                rotate_left
                · simp only [Act.put, List.setIfInBounds_toArray, List.set_cons_zero, List.set_cons_succ, i64_w, i32_w]
                  rfl
                refine pure_ (i := 26) (N := some 90) (v := undef) (a' := ?_) #[true, true, true, true, true, true, true, true, true, true, true, true, true, true, true, true, true, true, true, true, true, true, true, true, true, true, true, false] rfl rfl (by kernel_rfl) (fun _ _ _ h => h) (Or.inr ⟨by rfl, rfl⟩) ?_ ?_
                rotate_left
                · simp only [Act.put, List.setIfInBounds_toArray, List.set_cons_zero, List.set_cons_succ, i64_w, i32_w]
                  rfl
                refine pure_ (i := 27) (N := some 91) (v := ?_) (a' := ?_) #[true, true, true, true, true, true, true, true, true, true, true, true, true, true, true, true, true, true, true, true, true, true, true, true, true, true, true, true] rfl rfl (by kernel_rfl) (fun _ _ _ h => h) (Or.inl ⟨by rfl, ?_⟩) ?_ ?_
                rotate_left
                · intro w'
                  go_simp
                  with_reducible rfl
                rotate_left
                · simp only [Act.put, List.setIfInBounds_toArray, List.set_cons_zero, List.set_cons_succ, i64_w, i32_w]
                  rfl
                refine done_ (by kernel_rfl) ?_

                go_wp2
                go_roundg (q - (i + 1))
                case measure => omega
                case rel => exact ⟨i + 1, by omega, by omega, by go_num, ⟨Kd.R_drew RO.out⟩, ⟨Kd.R_drew RB.out⟩, ⟨below_drew BI.out⟩⟩
              · rw [hb, Bool.true_and] at hc
                rw [hb] at hbR hbit
                have hbit2 : (bits BinOp.and IntKind.i64 ((se : Int) / (p2 : Int)) 1 == 0) = false := hbit
                have hRS : R < se := of_decide_eq_true hbR.symm
                have heq := hc
                clear hbR hb hRs hc hbit
                have hR2 : (R : Int) < (256 : Int) := by omega
                have hS2 : (se : Int) < (256 : Int) := by omega
                obtain ⟨y0, z0⟩ := Kd.R_celln 0 RB.out (se : Int) (by omega) hS2
                obtain ⟨y1, z1⟩ := Kd.R_celln 0 RB.out (R : Int) (by omega) hR2
                rw [Int.toNat_natCast] at y0 z0 y1 z1
                have hx0 : rdOf 0 T (se : Int) = T.getD se 0 := rfl
                have hx1 : rdOf 0 T (R : Int) = T.getD R 0 := rfl
                rw [hx0] at y0
                rw [hx1] at y1
                clear hx0 hx1
                generalize T.getD se 0 = xs at y0 heq
                generalize T.getD R 0 = xr at y1 heq
                rw [Int.add_comm] at heq
                have hne : (wrap64 (xr + ahdN pr i R q) != xs) = true := by unfold bne; rw [heq]; rfl
                clear heq
                have hs0 : decide ((0 : Int) ≤ (se : Int)) = true := decide_eq_true (by omega)
                have hs1 : decide ((se : Int) < (256 : Int)) = true := decide_eq_true hS2
                have hR0 : decide ((0 : Int) ≤ (R : Int)) = true := decide_eq_true (by omega)
                have hR1 : decide ((R : Int) < (256 : Int)) = true := decide_eq_true hR2
                go_wp2
                refine start_ (n := 28) (S := fun w' => w'.cell? ⟨w1.heap.size, se, none⟩ = some (.int .i64 xs) ∧ w'.cell? ⟨w1.heap.size, R, none⟩ = some (.int .i64 xr)) (ds := []) #[false, false, false, false, false, false, false, false, false, false, false, false, false, false, false, false, false, false, false, false, false, false, false, false, false, false, false, false] (by kernel_rfl) rfl rfl ⟨(show wr.drew.cell? ⟨w1.heap.size, se, none⟩ = some (.int .i64 xs) from y0), (show wr.drew.cell? ⟨w1.heap.size, R, none⟩ = some (.int .i64 xr) from y1)⟩ (fun hHeld => ?_)
                refine pure_ (i := 0) (N := some 64) (v := ?_) (a' := ?_) #[true, false, false, false, false, false, false, false, false, false, false, false, false, false, false, false, false, false, false, false, false, false, false, false, false, false, false, false] rfl rfl (by kernel_rfl) (fun _ _ _ h => h) (Or.inl ⟨by rfl, ?_⟩) ?_ ?_
                rotate_left
                · intro w'
                  go_simp
                  with_reducible rfl
                rotate_left
                · simp only [Act.put, List.setIfInBounds_toArray, List.set_cons_zero, List.set_cons_succ, i64_w, i32_w]
                  rfl
                refine pure_ (i := 1) (N := some 65) (v := ?_) (a' := ?_) #[true, true, false, false, false, false, false, false, false, false, false, false, false, false, false, false, false, false, false, false, false, false, false, false, false, false, false, false] rfl rfl (by kernel_rfl) (fun _ _ _ h => h) (Or.inl ⟨by rfl, ?_⟩) ?_ ?_
                rotate_left
                · intro w'
                  go_simp
                  with_reducible rfl
                rotate_left
                · simp only [Act.put, List.setIfInBounds_toArray, List.set_cons_zero, List.set_cons_succ, i64_w, i32_w]
                  rfl
                refine pure_ (i := 2) (N := some 66) (v := ?_) (a' := ?_) #[true, true, true, false, false, false, false, false, false, false, false, false, false, false, false, false, false, false, false, false, false, false, false, false, false, false, false, false] rfl rfl (by kernel_rfl) (fun _ _ _ h => h) (Or.inl ⟨by rfl, ?_⟩) ?_ ?_
                rotate_left
                · intro w'
                  go_simp
                  with_reducible rfl
                rotate_left
                · simp only [Act.put, List.setIfInBounds_toArray, List.set_cons_zero, List.set_cons_succ, i64_w, i32_w]
                  rfl
                refine pure_ (i := 3) (N := some 67) (v := ?_) (a' := ?_) #[true, true, true, true, false, false, false, false, false, false, false, false, false, false, false, false, false, false, false, false, false, false, false, false, false, false, false, false] rfl rfl (by kernel_rfl) (fun _ _ _ h => h) (Or.inl ⟨by rfl, ?_⟩) ?_ ?_
                rotate_left
                · intro w'
                  go_simp
                  with_reducible rfl
                rotate_left
                · simp only [Act.put, List.setIfInBounds_toArray, List.set_cons_zero, List.set_cons_succ, i64_w, i32_w]
                  rfl
                refine pure_ (i := 4) (N := some 68) (v := ?_) (a' := ?_) #[true, true, true, true, true, false, false, false, false, false, false, false, false, false, false, false, false, false, false, false, false, false, false, false, false, false, false, false] rfl rfl (by kernel_rfl) (fun _ _ _ h => h) (Or.inl ⟨by rfl, ?_⟩) ?_ ?_
                rotate_left
                · intro w'
                  go_simp
                  with_reducible rfl
                rotate_left
                · simp only [Act.put, List.setIfInBounds_toArray, List.set_cons_zero, List.set_cons_succ, i64_w, i32_w]
                  rfl
                refine pure_ (i := 5) (N := some 69) (v := ?_) (a' := ?_) #[true, true, true, true, true, true, false, false, false, false, false, false, false, false, false, false, false, false, false, false, false, false, false, false, false, false, false, false] rfl rfl (by kernel_rfl) (fun _ _ _ h => h) (Or.inl ⟨by rfl, ?_⟩) ?_ ?_
                rotate_left
                · intro w'
                  go_simp
                  with_reducible rfl
                rotate_left
                · simp only [Act.put, List.setIfInBounds_toArray, List.set_cons_zero, List.set_cons_succ, i64_w, i32_w]
                  rfl
                refine pure_ (i := 6) (N := some 70) (v := ?_) (a' := ?_) #[true, true, true, true, true, true, true, false, false, false, false, false, false, false, false, false, false, false, false, false, false, false, false, false, false, false, false, false] rfl rfl (by kernel_rfl) (fun _ _ _ h => h) (Or.inl ⟨by rfl, ?_⟩) ?_ ?_
                rotate_left
                · intro w'
                  go_simp
                  with_reducible rfl
                rotate_left
                · simp only [Act.put, List.setIfInBounds_toArray, List.set_cons_zero, List.set_cons_succ, i64_w, i32_w]
                  rfl
                refine pure_ (i := 7) (N := some 71) (v := ?_) (a' := ?_) #[true, true, true, true, true, true, true, true, false, false, false, false, false, false, false, false, false, false, false, false, false, false, false, false, false, false, false, false] rfl rfl (by kernel_rfl) (fun _ _ _ h => h) (Or.inl ⟨by rfl, ?_⟩) ?_ ?_
                rotate_left
                · intro w'
                  go_simp
                  with_reducible rfl
                rotate_left
                · simp only [Act.put, List.setIfInBounds_toArray, List.set_cons_zero, List.set_cons_succ, i64_w, i32_w]
                  rfl
                refine pure_ (i := 8) (N := some 72) (v := ?_) (a' := ?_) #[true, true, true, true, true, true, true, true, true, false, false, false, false, false, false, false, false, false, false, false, false, false, false, false, false, false, false, false] rfl rfl (by kernel_rfl) (fun _ _ _ h => h) (Or.inl ⟨by rfl, ?_⟩) ?_ ?_
                rotate_left
                · intro w'
                  go_simp
                  with_reducible rfl
                rotate_left
                · simp only [Act.put, List.setIfInBounds_toArray, List.set_cons_zero, List.set_cons_succ, i64_w, i32_w]
                  rfl
                refine pure_ (i := 9) (N := some 73) (v := ?_) (a' := ?_) #[true, true, true, true, true, true, true, true, true, true, false, false, false, false, false, false, false, false, false, false, false, false, false, false, false, false, false, false] rfl rfl (by kernel_rfl) (fun _ _ _ h => h) (Or.inl ⟨by rfl, ?_⟩) ?_ ?_
                rotate_left
                · intro w'
                  go_simp
                  with_reducible rfl
                rotate_left
                · simp only [Act.put, List.setIfInBounds_toArray, List.set_cons_zero, List.set_cons_succ, i64_w, i32_w]
                  rfl
                refine pure_ (i := 10) (N := some 74) (v := ?_) (a' := ?_) #[true, true, true, true, true, true, true, true, true, true, true, false, false, false, false, false, false, false, false, false, false, false, false, false, false, false, false, false] rfl rfl (by kernel_rfl) (fun _ _ _ h => h) (Or.inl ⟨by rfl, ?_⟩) ?_ ?_
                rotate_left
                · intro w'
                  go_simp
                  with_reducible rfl
                rotate_left
                · simp only [Act.put, List.setIfInBounds_toArray, List.set_cons_zero, List.set_cons_succ, i64_w, i32_w]
                  rfl
                refine pure_ (i := 11) (N := some 75) (v := ?_) (a' := ?_) #[true, true, true, true, true, true, true, true, true, true, true, true, false, false, false, false, false, false, false, false, false, false, false, false, false, false, false, false] rfl rfl (by kernel_rfl) (fun _ _ _ h => h) (Or.inl ⟨by rfl, ?_⟩) ?_ ?_
                rotate_left
                · intro w'
                  go_simp
                  with_reducible rfl
                rotate_left
                · simp only [Act.put, List.setIfInBounds_toArray, List.set_cons_zero, List.set_cons_succ, i64_w, i32_w]
                  rfl
                refine pure_ (i := 12) (N := some 76) (v := ?_) (a' := ?_) #[true, true, true, true, true, true, true, true, true, true, true, true, true, false, false, false, false, false, false, false, false, false, false, false, false, false, false, false] rfl rfl (by kernel_rfl) (fun _ _ _ h => h) (Or.inl ⟨by rfl, ?_⟩) ?_ ?_
                rotate_left
                · intro w'
                  go_simp
                  with_reducible rfl
                rotate_left
                · simp only [Act.put, List.setIfInBounds_toArray, List.set_cons_zero, List.set_cons_succ, i64_w, i32_w]
                  rfl
                refine pure_ (i := 14) (N := some 78) (v := ?_) (a' := ?_) #[true, true, true, true, true, true, true, true, true, true, true, true, true, false, true, false, false, false, false, false, false, false, false, false, false, false, false, false] rfl rfl (by kernel_rfl) (fun _ _ _ h => h) (Or.inl ⟨by rfl, ?_⟩) ?_ ?_
                rotate_left
                · intro w'
                  go_simp
                  with_reducible rfl
                rotate_left
                · simp only [Act.put, List.setIfInBounds_toArray, List.set_cons_zero, List.set_cons_succ, i64_w, i32_w]
                  rfl
                refine pure_ (i := 15) (N := some 79) (v := ?_) (a' := ?_) #[true, true, true, true, true, true, true, true, true, true, true, true, true, false, true, true, false, false, false, false, false, false, false, false, false, false, false, false] rfl rfl (by kernel_rfl) (fun _ _ _ h => h) (Or.inl ⟨by rfl, ?_⟩) ?_ ?_
                rotate_left
                · intro w'
                  go_simp
                  with_reducible rfl
                rotate_left
                · simp only [Act.put, List.setIfInBounds_toArray, List.set_cons_zero, List.set_cons_succ, i64_w, i32_w]
                  rfl
                refine pure_ (i := 16) (N := some 80) (v := ?_) (a' := ?_) #[true, true, true, true, true, true, true, true, true, true, true, true, true, false, true, true, true, false, false, false, false, false, false, false, false, false, false, false] rfl rfl (by kernel_rfl) (fun _ _ _ h => h) (Or.inl ⟨by rfl, ?_⟩) ?_ ?_
                rotate_left
                · intro w'
                  go_simp
                  with_reducible rfl
                rotate_left
                · simp only [Act.put, List.setIfInBounds_toArray, List.set_cons_zero, List.set_cons_succ, i64_w, i32_w]
                  rfl
                refine pure_ (i := 17) (N := some 81) (v := ?_) (a' := ?_) #[true, true, true, true, true, true, true, true, true, true, true, true, true, false, true, true, true, true, false, false, false, false, false, false, false, false, false, false] rfl rfl (by kernel_rfl) (fun _ _ _ h => h) (Or.inl ⟨by rfl, ?_⟩) ?_ ?_
                rotate_left
                · intro w'
                  go_simp
                  with_reducible rfl
                rotate_left
                · simp only [Act.put, List.setIfInBounds_toArray, List.set_cons_zero, List.set_cons_succ, i64_w, i32_w]
                  rfl
                refine pure_ (i := 18) (N := some 82) (v := ?_) (a' := ?_) #[true, true, true, true, true, true, true, true, true, true, true, true, true, false, true, true, true, true, true, false, false, false, false, false, false, false, false, false] rfl rfl (by kernel_rfl) (fun _ _ _ h => h) (Or.inl ⟨by rfl, ?_⟩) ?_ ?_
                rotate_left
                · intro w'
                  go_simp
                  with_reducible rfl
                rotate_left
                · simp only [Act.put, List.setIfInBounds_toArray, List.set_cons_zero, List.set_cons_succ, i64_w, i32_w]
                  rfl
                refine pure_ (i := 19) (N := some 83) (v := ?_) (a' := ?_) #[true, true, true, true, true, true, true, true, true, true, true, true, true, false, true, true, true, true, true, true, false, false, false, false, false, false, false, false] rfl rfl (by kernel_rfl) (fun _ _ _ h => h) (Or.inl ⟨by rfl, ?_⟩) ?_ ?_
                rotate_left
                · intro w'
                  go_simp
                  with_reducible rfl
                rotate_left
                · simp only [Act.put, List.setIfInBounds_toArray, List.set_cons_zero, List.set_cons_succ, i64_w, i32_w]
                  rfl
                refine pure_ (i := 20) (N := some 84) (v := ?_) (a' := ?_) #[true, true, true, true, true, true, true, true, true, true, true, true, true, false, true, true, true, true, true, true, true, false, false, false, false, false, false, false] rfl rfl (by kernel_rfl) (fun _ _ _ h => h) (Or.inl ⟨by rfl, ?_⟩) ?_ ?_
                rotate_left
                · intro w'
                  go_simp
                  with_reducible rfl
                rotate_left
                · simp only [Act.put, List.setIfInBounds_toArray, List.set_cons_zero, List.set_cons_succ, i64_w, i32_w]
                  rfl
                refine pure_ (i := 23) (N := some 87) (v := ?_) (a' := ?_) #[true, true, true, true, true, true, true, true, true, true, true, true, true, false, true, true, true, true, true, true, true, false, false, true, false, false, false, false] rfl rfl (by kernel_rfl) (fun _ _ _ h => h) (Or.inl ⟨by rfl, ?_⟩) ?_ ?_
                rotate_left
                · intro w'
                  go_simp
                  with_reducible rfl
                rotate_left
                · simp only [Act.put, List.setIfInBounds_toArray, List.set_cons_zero, List.set_cons_succ, i64_w, i32_w]
                  rfl
                refine pure_ (i := 24) (N := some 88) (v := ?_) (a' := ?_) #[true, true, true, true, true, true, true, true, true, true, true, true, true, false, true, true, true, true, true, true, true, false, false, true, true, false, false, false] rfl rfl (by kernel_rfl) (fun _ _ _ h => h) (Or.inl ⟨by rfl, ?_⟩) ?_ ?_
                rotate_left
                · intro w'
                  go_simp
                  with_reducible rfl
                rotate_left
                · simp only [Act.put, List.setIfInBounds_toArray, List.set_cons_zero, List.set_cons_succ, i64_w, i32_w]
                  rfl
                refine take_ (i := 13) (N := some 77) (v := ?_) (a' := ?_) #[true, true, true, true, true, true, true, true, true, true, true, true, true, true, true, true, true, true, true, true, true, false, false, true, true, false, false, false] rfl rfl (by kernel_rfl) (fun _ _ _ h => h) (Or.inl ⟨by rfl, ?_⟩) hHeld ?_ ?_
                rotate_left
                · rintro w' ⟨s0, s1⟩
                  go_simp
                  with_reducible rfl
                rotate_left
                · simp only [Act.put, List.setIfInBounds_toArray, List.set_cons_zero, List.set_cons_succ, i64_w, i32_w]
                  rfl
                refine take_ (i := 25) (N := some 89) (v := ?_) (a' := ?_) #[true, true, true, true, true, true, true, true, true, true, true, true, true, true, true, true, true, true, true, true, true, false, false, true, true, true, false, false] rfl rfl (by kernel_rfl) (fun _ _ _ h => h) (Or.inl ⟨by rfl, ?_⟩) hHeld ?_ ?_
                rotate_left
                · rintro w' ⟨s0, s1⟩
                  go_simp
                  with_reducible rfl
                rotate_left
                · simp only [Act.put, List.setIfInBounds_toArray, List.set_cons_zero, List.set_cons_succ, i64_w, i32_w]
                  rfl
                refine one_ (i := 21) (N := some 85) #[true, true, true, true, true, true, true, true, true, true, true, true, true, true, true, true, true, true, true, true, true, true, false, true, true, true, false, false] rfl rfl (by kernel_rfl) (by decide) (fun K hK => ?_)
                refine goes_ Try.func56 (by kernel_rfl) rfl #[.slice A19 q c19, .int .i64 (i : Int), .int .i64 (R : Int)] (by rfl) rfl rfl (by simp only [List.map_toArray, List.map_cons, List.map_nil]; rfl) ?_
                with_reducible refine (HC.out i R _ (Kd.C_below XC.out (below_drew BI.out)) hi hr256).mono ?_
                rintro e w5 ⟨rfl, m5, rfl⟩
                refine ⟨_, rfl, ?_⟩
                refine hK.out _ _ ⟨pw_cell_below (pw_below_drewN (Below.refl _ _) _) hHeld.1, pw_cell_below (pw_below_drewN (Below.refl _ _) _) hHeld.2⟩ (fun hHeld => ?_)
                clear hK K
                refine norm_ (a' := ?_) ?_ ?_
                rotate_left
                · show Act.put _ (some 85) _ = _
                  simp only [Act.put, List.setIfInBounds_toArray, List.set_cons_zero, List.set_cons_succ, i64_w, i32_w]
                  rfl
                refine pure_ (i := 22) (N := some 86) (v := ?_) (a' := ?_) #[true, true, true, true, true, true, true, true, true, true, true, true, true, true, true, true, true, true, true, true, true, true, true, true, true, true, false, false] rfl rfl (by kernel_rfl) (fun _ _ _ h => h) (Or.inl ⟨by rfl, ?_⟩) ?_ ?_
                rotate_left
                · intro w'
                  go_simp
                  with_reducible rfl
                rotate_left
                · simp only [Act.put, List.setIfInBounds_toArray, List.set_cons_zero, List.set_cons_succ, i64_w, i32_w]
                  rfl
                refine pure_ (i := 26) (N := some 90) (v := ?_) (a' := ?_) #[true, true, true, true, true, true, true, true, true, true, true, true, true, true, true, true, true, true, true, true, true, true, true, true, true, true, true, false] rfl rfl (by kernel_rfl) (fun _ _ _ h => h) (Or.inl ⟨by rfl, ?_⟩) ?_ ?_
                rotate_left
                · intro w'
                  go_simp
                  with_reducible rfl
                rotate_left
                · simp only [Act.put, List.setIfInBounds_toArray, List.set_cons_zero, List.set_cons_succ, i64_w, i32_w]
                  rfl
                refine pure_ (i := 27) (N := some 91) (v := ?_) (a' := ?_) #[true, true, true, true, true, true, true, true, true, true, true, true, true, true, true, true, true, true, true, true, true, true, true, true, true, true, true, true] rfl rfl (by kernel_rfl) (fun _ _ _ h => h) (Or.inl ⟨by rfl, ?_⟩) ?_ ?_
                rotate_left
                · intro w'
                  go_simp
                  with_reducible rfl
                rotate_left
                · simp only [Act.put, List.setIfInBounds_toArray, List.set_cons_zero, List.set_cons_succ, i64_w, i32_w]
                  rfl
                refine done_ (by kernel_rfl) ?_

                go_wp2
                go_roundg (q - (i + 1))
                case measure => omega
                case rel => exact ⟨i + 1, by omega, by omega, by go_num, ⟨Kd.R_drewN RO.out _⟩, ⟨Kd.R_drewN RB.out _⟩, ⟨pw_below_drewN BI.out _⟩⟩
        · obtain rfl : se = 0 := by omega
          have h0' : ¬ (0 : Int) < ((0 : Nat) : Int) := by omega
          have hn := ordO_zero ho
          subst hn
          rw [List.append_nil] at hl
          subst hl
          clear ho
          have hSZ : ((s - 1 : Nat) : Int) < (256 : Int) := by omega
          obtain ⟨y0, z0⟩ := Kd.R_celln 0 RB.out ((s - 1 : Nat) : Int) (by omega) hSZ
          rw [Int.toNat_natCast] at y0 z0
          have hx0 : rdOf 0 T ((s - 1 : Nat) : Int) = T.getD (s - 1) 0 := rfl
          rw [hx0, HR2.out] at y0
          obtain ⟨xl, rfl⟩ : ∃ xl, xl = r2 := ⟨_, rfl⟩
          have hs0 : decide ((0 : Int) ≤ ((s - 1 : Nat) : Int)) = true := decide_eq_true (by omega)
          have hs1 : decide (((s - 1 : Nat) : Int) < (256 : Int)) = true := decide_eq_true hSZ
          go_wp2
          refine start_ (n := 7) (S := fun w' => w'.cell? ⟨w1.heap.size, s - 1, none⟩ = some (.int .i64 xl)) (ds := []) #[false, false, false, false, false, false, false] (by kernel_rfl) rfl rfl ((show wr.drew.cell? ⟨w1.heap.size, s - 1, none⟩ = some (.int .i64 xl) from y0)) (fun hHeld => ?_)
          refine pure_ (i := 0) (N := some 103) (v := ?_) (a' := ?_) #[true, false, false, false, false, false, false] rfl rfl (by kernel_rfl) (fun _ _ _ h => h) (Or.inl ⟨by rfl, ?_⟩) ?_ ?_
          rotate_left
          · intro w'
            go_simp
            with_reducible rfl
          rotate_left
          · simp only [Act.put, List.setIfInBounds_toArray, List.set_cons_zero, List.set_cons_succ, i64_w, i32_w]
            rfl
          refine pure_ (i := 1) (N := some 104) (v := ?_) (a' := ?_) #[true, true, false, false, false, false, false] rfl rfl (by kernel_rfl) (fun _ _ _ h => h) (Or.inl ⟨by rfl, ?_⟩) ?_ ?_
          rotate_left
          · intro w'
            go_simp
            with_reducible rfl
          rotate_left
          · simp only [Act.put, List.setIfInBounds_toArray, List.set_cons_zero, List.set_cons_succ, i64_w, i32_w]
            rfl
          refine pure_ (i := 2) (N := some 105) (v := ?_) (a' := ?_) #[true, true, true, false, false, false, false] rfl rfl (by kernel_rfl) (fun _ _ _ h => h) (Or.inl ⟨by rfl, ?_⟩) ?_ ?_
          rotate_left
          · intro w'
            go_simp
            with_reducible rfl
          rotate_left
          · simp only [Act.put, List.setIfInBounds_toArray, List.set_cons_zero, List.set_cons_succ, i64_w, i32_w]
            rfl
          refine pure_ (i := 3) (N := some 106) (v := ?_) (a' := ?_) #[true, true, true, true, false, false, false] rfl rfl (by kernel_rfl) (fun _ _ _ h => h) (Or.inl ⟨by rfl, ?_⟩) ?_ ?_
          rotate_left
          · intro w'
            go_simp
            with_reducible rfl
          rotate_left
          · simp only [Act.put, List.setIfInBounds_toArray, List.set_cons_zero, List.set_cons_succ, i64_w, i32_w]
            rfl
          refine pure_ (i := 5) (N := some 4) (v := ?_) (a' := ?_) #[true, true, true, true, false, true, false] rfl rfl (by kernel_rfl) (fun _ _ _ h => h) (Or.inl ⟨by rfl, ?_⟩) ?_ ?_
          rotate_left
          · intro w'
            go_simp
            with_reducible rfl
          rotate_left
          · simp only [Act.put, List.setIfInBounds_toArray, List.set_cons_zero, List.set_cons_succ, i64_w, i32_w]
            rfl
          refine take_ (i := 4) (N := some 107) (v := ?_) (a' := ?_) #[true, true, true, true, true, true, false] rfl rfl (by kernel_rfl) (fun _ _ _ h => h) (Or.inl ⟨by rfl, ?_⟩) hHeld ?_ ?_
          rotate_left
          · intro w' s0
            go_simp
            with_reducible rfl
          rotate_left
          · simp only [Act.put, List.setIfInBounds_toArray, List.set_cons_zero, List.set_cons_succ, i64_w, i32_w]
            rfl
          refine pure_ (i := 6) (N := some 5) (v := ?_) (a' := ?_) #[true, true, true, true, true, true, true] rfl rfl (by kernel_rfl) (fun _ _ _ h => h) (Or.inl ⟨by rfl, ?_⟩) ?_ ?_
          rotate_left
          · intro w'
            go_simp
            with_reducible rfl
          rotate_left
          · simp only [Act.put, List.setIfInBounds_toArray, List.set_cons_zero, List.set_cons_succ, i64_w, i32_w]
            rfl
          refine done_ (by kernel_rfl) ?_

          go_wp2
          go_ret2
          exact ⟨_, rfl, Kd.R_mono (Kd.R_lower (Kd.R_drew RO.out) B1.out.size) (fun _ _ => trivial), below_then B1.out B1.out.size (below_drew BI.out)⟩
end Go.Proofs.Ytngpjamojkneeaa.G
