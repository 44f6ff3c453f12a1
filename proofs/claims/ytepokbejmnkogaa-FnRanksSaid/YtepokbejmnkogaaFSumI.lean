/- slices.SortStableFunc at up to 20 whole numbers, with impl.SumOrder's closure: walked by hand. Printed by wip/tools/sumo.py. -/
import Derived.Test.YtepokbejmnkogaaG0
import Derived.Test.YtepokbejmnkogaaPl
import Derived.Test.YtepokbejmnkogaaSumLib
import Derived.Test.YtepokbejmnkogaaFGoesF
import Derived.Test.YtepokbejmnkogaaFLwLib
import Derived.BigQuiet
import Derived.BigRegion
import Derived.ChangeAlike
import Derived.Outline
namespace Go.Proofs.Ytepokbejmnkogaa.G
open Go.RowKit Go.Proofs.YtepokbejmnkogaaW.PrintWords Go.Proofs.YtepokbejmnkogaaW.PrintLast Go.Proofs.YtepokbejmnkogaaW.PrintMore
attribute [local go_sem] max2_int min2_int max_two min_two max_three min_three max_four min_four   -- for this text's walks alone
set_option linter.unusedVariables false
set_option linter.unusedSimpArgs false

open Go.Proofs.Ytepokbejmnkogaa.Wk Go.Proofs.Ytepokbejmnkogaa.Pl Go.Proofs.Ytepokbejmnkogaa.Sum _root_.Go.Proofs.Ytepokbejmnkogaa.G.Best
namespace SumW
theorem reletC {P : Program} {c : Code} {Q : Exit → Act → World → Prop} {a : Act} {W : World} (F : World → Prop) (hF : F W) (h : ∀ w', F w' → Code.wp P c Q a w') : Code.wp P c Q a W := h W hF
theorem reletE {K : Act → World → Prop} {Q : Exit → Act → World → Prop} {e : Exit} {a : Act} {W : World} (F : World → Prop) (hF : F W) (h : ∀ w', F w' → Exit.then K Q e a w') : Exit.then K Q e a W := h W hF
theorem reletI {n : Nat} {K : Exit → Act → World → Prop} {e : Exit} {a : Act} {W : World} (F : World → Prop) (hF : F W) (h : ∀ w', F w' → Exit.inBlock n K e a w') : Exit.inBlock n K e a W := h W hF
set_option maxHeartbeats 4000000 in
set_option maxRecDepth 100000 in
theorem cmpW (x y : Nat) (a0 : Addr) (A : Option Addr) (c : Nat) (S : List Int) (w : World) (h0 : w.cell? a0 = some (.slice A S.length c)) (hC : Kd.C (Kd.int .i64) w A S.length S) (hx : x < S.length) (hy : y < S.length) :
    Calls Try.prog 67 #[.int .i64 x, .int .i64 y, .pointer (some a0)] w fun e w' => e = .returned (.int .i64 (wrap64 (S.getD x 0 - S.getD y 0))) ∧ Drawn0 w w' := by
  have hx' : (x : Int) < (S.length : Int) := by omega
  have hy' : (y : Int) < (S.length : Int) := by omega
  obtain ⟨ad0, e0, y0⟩ := Kd.at_int hC (x : Int) (by omega) hx'
  obtain ⟨ad1, e1, y1⟩ := Kd.at_int hC (y : Int) (by omega) hy'
  subst e0
  cases e1
  rw [Int.toNat_natCast] at y0 y1
  have hrd : rd S (x : Int) = S.getD x 0 := rfl
  have hrd2 : rd S (y : Int) = S.getD y 0 := rfl
  rw [hrd] at y0
  rw [hrd2] at y1
  generalize S.getD x 0 = sx at y0
  generalize S.getD y 0 = sy at y1
  clear hC hrd hrd2
  go_enter Try.func67, Try.ntmps67
  go_wp2
  go_quiet (fail)
  go_wp2
  go_ret
  exact ⟨rfl, _, rfl⟩
set_option maxHeartbeats 16000000 in
set_option maxRecDepth 100000 in
theorem insW (n g cap b : Nat) (ok : Nat → Prop) (a0 : Addr) (q : Nat) (S xs : List Int) (w : World) (I : World → Prop) (hI0 : ∀ W, I W → I W.drew) (hI1 : ∀ W m, I W → I (W.drewN m)) (hI2 : ∀ W o v, I W → I (W.setCell ⟨g, o, none⟩ v)) (hn1 : 1 ≤ n) (hn : n ≤ 20) (hl : xs.length = n) (hs : Smp q xs) (hgb : b ≤ g) (hok : ok g)
    (hcm : ∀ (x y : Nat) (W : World), I W → x < q → y < q → Calls Try.prog 67 #[.int .i64 x, .int .i64 y, .pointer (some a0)] W fun e w' => e = .returned (.int .i64 (wrap64 (S.getD x 0 - S.getD y 0))) ∧ Drawn0 W w')
    (hR : Kd.R (Kd.int .i64) 2 w b ok (.slice (some ⟨g, 0, none⟩) n cap) xs) (hB : I w) :
    Calls Try.prog 134 #[.slice (some ⟨g, 0, none⟩) n cap, .int .i64 0, .int .i64 n, .func (.func 67) #[] #[.pointer (some a0)]] w fun e w' => e = .returned (.tuple #[]) ∧ Kd.R (Kd.int .i64) 2 w' b ok (.slice (some ⟨g, 0, none⟩) n cap) (insI S xs (n - 1)) ∧ I w' := by
  have HCM := Lib.hid hcm
  have HI := Lib.hid (And.intro hI0 (And.intro hI1 hI2))
  clear hI0 hI1 hI2
  have RT := Aside0.mk hR
  have BI := Aside0.mk hB
  have HS := Lib.hid hs
  have HL := Lib.hid hl
  clear hcm hR hB hs hl
  go_enter Try.func134, Try.ntmps134
  go_wp2
  go_loopg [8] n (fun gg v8 wi => ∃ i : Nat, 1 ≤ i ∧ i ≤ n ∧ n - i ≤ gg ∧ v8 = .int .i64 i ∧ Aside0 (Kd.R (Kd.int .i64) 2 wi b ok (.slice (some ⟨g, 0, none⟩) n cap) (insI S xs (i - 1))) ∧ Aside0 (I wi))
  case atStart => exact ⟨1, Nat.le_refl _, hn1, by omega, rfl, RT, BI⟩
  case round =>
    clear RT BI
    obtain ⟨i, hi1, hin, hgg, rfl, RT, BI⟩ := hrel
    by_cases hlt : i < n
    · have hltz : (i : Int) < (n : Int) := by omega
      obtain ⟨ys, hys⟩ : ∃ ys, ys = insI S xs (i - 1) := ⟨_, rfl⟩
      have hsy : Smp q ys := by rw [hys]; exact Smp.insI S HS.out _ (by rw [HL.out]; omega)
      have hly : ys.length = n := by rw [hys, insI_length, HL.out]
      have hnext : insI S xs i = insJ S i ys := by
        have := insI_succ S xs (i - 1)
        rw [show i - 1 + 1 = i by omega] at this
        rw [this, hys]
      rw [← hys] at RT
      have HNX := Lib.hid hnext
      clear hys hnext
      obtain ⟨TT, hTT⟩ : ∃ TT, insJ S i ys = TT := ⟨_, rfl⟩
      rw [hTT] at HNX
      have HT := Lib.hid hTT
      clear hTT
      go_wp2
      go_loopg [9] n (fun gg v9 wi => ∃ (j : Nat) (zs : List Int), j ≤ gg ∧ j < n ∧ v9 = .int .i64 j ∧ insJ S j zs = TT ∧ Smp q zs ∧ zs.length = n ∧ Aside0 (Kd.R (Kd.int .i64) 2 wi b ok (.slice (some ⟨g, 0, none⟩) n cap) zs) ∧ Aside0 (I wi))
      case atStart => exact ⟨i, ys, by omega, hlt, rfl, HT.out, hsy, hly, RT, BI⟩
      case round =>
        clear RT BI
        obtain ⟨j, zs, hjg, hjn, rfl, hJ, hsz, hlz, RT, BI⟩ := hrel
        by_cases h0 : j = 0
        · subst h0
          have hJ2 : zs = TT := hJ
          have HJ := Lib.hid hJ2
          have hgt : decide ((0 : Int) < ((0 : Nat) : Int)) = false := by decide
          clear hJ hJ2 hsz
          go_wp2
          refine start_ (n := 17) (S := fun w' => True) (ds := []) #[false, false, false, false, false, false, false, false, false, false, false, false, false, false, false, false, false] (by kernel_rfl) rfl rfl trivial (fun hHeld => ?_)
          refine pure_ (i := 0) (N := some 18) (v := ?_) (a' := ?_) #[true, false, false, false, false, false, false, false, false, false, false, false, false, false, false, false, false] rfl rfl (by kernel_rfl) (fun _ _ _ h => h) (Or.inl ⟨by rfl, ?_⟩) ?_ ?_
          rotate_left
          · intro w'
            go_simp
            with_reducible rfl
          rotate_left
          · simp only [Act.put, List.setIfInBounds_toArray, List.set_cons_zero, List.set_cons_succ, i64_w, i32_w]
            rfl
          refine pure_ (i := 1) (N := some 19) (v := ?_) (a' := ?_) #[true, true, false, false, false, false, false, false, false, false, false, false, false, false, false, false, false] rfl rfl (by kernel_rfl) (fun _ _ _ h => h) (Or.inl ⟨by rfl, ?_⟩) ?_ ?_
          rotate_left
          · intro w'
            go_simp
            with_reducible rfl
          rotate_left
          · simp only [Act.put, List.setIfInBounds_toArray, List.set_cons_zero, List.set_cons_succ, i64_w, i32_w]
            rfl
          refine pure_ (i := 2) (N := some 20) (v := ?_) (a' := ?_) #[true, true, true, false, false, false, false, false, false, false, false, false, false, false, false, false, false] rfl rfl (by kernel_rfl) (fun _ _ _ h => h) (Or.inl ⟨by rfl, ?_⟩) ?_ ?_
          rotate_left
          · intro w'
            go_simp
            with_reducible rfl
          rotate_left
          · simp only [Act.put, List.setIfInBounds_toArray, List.set_cons_zero, List.set_cons_succ, i64_w, i32_w]
            rfl
          refine pure_ (i := 3) (N := some 21) (v := ?_) (a' := ?_) #[true, true, true, true, false, false, false, false, false, false, false, false, false, false, false, false, false] rfl rfl (by kernel_rfl) (fun _ _ _ h => h) (Or.inl ⟨by rfl, ?_⟩) ?_ ?_
          rotate_left
          · intro w'
            go_simp
            with_reducible rfl
          rotate_left
          · simp only [Act.put, List.setIfInBounds_toArray, List.set_cons_zero, List.set_cons_succ, i64_w, i32_w]
            rfl
          refine pure_ (i := 4) (N := some 22) (v := undef) (a' := ?_) #[true, true, true, true, true, false, false, false, false, false, false, false, false, false, false, false, false] rfl rfl (by kernel_rfl) (fun _ _ _ h => h) (Or.inr ⟨by rfl, rfl⟩) ?_ ?_
          rotate_left
          · simp only [Act.put, List.setIfInBounds_toArray, List.set_cons_zero, List.set_cons_succ, i64_w, i32_w]
            rfl
          refine pure_ (i := 5) (N := some 23) (v := undef) (a' := ?_) #[true, true, true, true, true, true, false, false, false, false, false, false, false, false, false, false, false] rfl rfl (by kernel_rfl) (fun _ _ _ h => h) (Or.inr ⟨by rfl, rfl⟩) ?_ ?_
          rotate_left
          · simp only [Act.put, List.setIfInBounds_toArray, List.set_cons_zero, List.set_cons_succ, i64_w, i32_w]
            rfl
          refine pure_ (i := 6) (N := some 24) (v := undef) (a' := ?_) #[true, true, true, true, true, true, true, false, false, false, false, false, false, false, false, false, false] rfl rfl (by kernel_rfl) (fun _ _ _ h => h) (Or.inr ⟨by rfl, rfl⟩) ?_ ?_
          rotate_left
          · simp only [Act.put, List.setIfInBounds_toArray, List.set_cons_zero, List.set_cons_succ, i64_w, i32_w]
            rfl
          refine pure_ (i := 7) (N := some 25) (v := undef) (a' := ?_) #[true, true, true, true, true, true, true, true, false, false, false, false, false, false, false, false, false] rfl rfl (by kernel_rfl) (fun _ _ _ h => h) (Or.inr ⟨by rfl, rfl⟩) ?_ ?_
          rotate_left
          · simp only [Act.put, List.setIfInBounds_toArray, List.set_cons_zero, List.set_cons_succ, i64_w, i32_w]
            rfl
          refine pure_ (i := 8) (N := some 26) (v := undef) (a' := ?_) #[true, true, true, true, true, true, true, true, true, false, false, false, false, false, false, false, false] rfl rfl (by kernel_rfl) (fun _ _ _ h => h) (Or.inr ⟨by rfl, rfl⟩) ?_ ?_
          rotate_left
          · simp only [Act.put, List.setIfInBounds_toArray, List.set_cons_zero, List.set_cons_succ, i64_w, i32_w]
            rfl
          refine pure_ (i := 9) (N := some 27) (v := undef) (a' := ?_) #[true, true, true, true, true, true, true, true, true, true, false, false, false, false, false, false, false] rfl rfl (by kernel_rfl) (fun _ _ _ h => h) (Or.inr ⟨by rfl, rfl⟩) ?_ ?_
          rotate_left
          · simp only [Act.put, List.setIfInBounds_toArray, List.set_cons_zero, List.set_cons_succ, i64_w, i32_w]
            rfl
          refine pure_ (i := 10) (N := some 28) (v := undef) (a' := ?_) #[true, true, true, true, true, true, true, true, true, true, true, false, false, false, false, false, false] rfl rfl (by kernel_rfl) (fun _ _ _ h => h) (Or.inr ⟨by rfl, rfl⟩) ?_ ?_
          rotate_left
          · simp only [Act.put, List.setIfInBounds_toArray, List.set_cons_zero, List.set_cons_succ, i64_w, i32_w]
            rfl
          refine pure_ (i := 11) (N := some 29) (v := undef) (a' := ?_) #[true, true, true, true, true, true, true, true, true, true, true, true, false, false, false, false, false] rfl rfl (by kernel_rfl) (fun _ _ _ h => h) (Or.inr ⟨by rfl, rfl⟩) ?_ ?_
          rotate_left
          · simp only [Act.put, List.setIfInBounds_toArray, List.set_cons_zero, List.set_cons_succ, i64_w, i32_w]
            rfl
          refine pure_ (i := 12) (N := some 30) (v := undef) (a' := ?_) #[true, true, true, true, true, true, true, true, true, true, true, true, true, false, false, false, false] rfl rfl (by kernel_rfl) (fun _ _ _ h => h) (Or.inr ⟨by rfl, rfl⟩) ?_ ?_
          rotate_left
          · simp only [Act.put, List.setIfInBounds_toArray, List.set_cons_zero, List.set_cons_succ, i64_w, i32_w]
            rfl
          refine pure_ (i := 13) (N := some 31) (v := undef) (a' := ?_) #[true, true, true, true, true, true, true, true, true, true, true, true, true, true, false, false, false] rfl rfl (by kernel_rfl) (fun _ _ _ h => h) (Or.inr ⟨by rfl, rfl⟩) ?_ ?_
          rotate_left
          · simp only [Act.put, List.setIfInBounds_toArray, List.set_cons_zero, List.set_cons_succ, i64_w, i32_w]
            rfl
          refine pure_ (i := 14) (N := some 32) (v := undef) (a' := ?_) #[true, true, true, true, true, true, true, true, true, true, true, true, true, true, true, false, false] rfl rfl (by kernel_rfl) (fun _ _ _ h => h) (Or.inr ⟨by rfl, rfl⟩) ?_ ?_
          rotate_left
          · simp only [Act.put, List.setIfInBounds_toArray, List.set_cons_zero, List.set_cons_succ, i64_w, i32_w]
            rfl
          refine pure_ (i := 15) (N := some 33) (v := undef) (a' := ?_) #[true, true, true, true, true, true, true, true, true, true, true, true, true, true, true, true, false] rfl rfl (by kernel_rfl) (fun _ _ _ h => h) (Or.inr ⟨by rfl, rfl⟩) ?_ ?_
          rotate_left
          · simp only [Act.put, List.setIfInBounds_toArray, List.set_cons_zero, List.set_cons_succ, i64_w, i32_w]
            rfl
          refine pure_ (i := 16) (N := some 34) (v := ?_) (a' := ?_) #[true, true, true, true, true, true, true, true, true, true, true, true, true, true, true, true, true] rfl rfl (by kernel_rfl) (fun _ _ _ h => h) (Or.inl ⟨by rfl, ?_⟩) ?_ ?_
          rotate_left
          · intro w'
            go_simp
            with_reducible rfl
          rotate_left
          · simp only [Act.put, List.setIfInBounds_toArray, List.set_cons_zero, List.set_cons_succ, i64_w, i32_w]
            rfl
          refine done_ (by kernel_rfl) ?_

          go_wp2
          go_roundg (n - (i + 1))
          case measure => omega
          case rel => exact ⟨i + 1, by omega, by omega, by omega, by go_num, ⟨by rw [show i + 1 - 1 = i by omega, HNX.out, ← HJ.out]; exact Kd.R_drew RT.out⟩, ⟨HI.out.1 _ BI.out⟩⟩
        · obtain ⟨j, rfl⟩ : ∃ k, j = k + 1 := ⟨j - 1, by omega⟩
          obtain ⟨xa, hxe, hxa⟩ := hsz (j + 1) (by omega)
          obtain ⟨ya, hye, hya⟩ := hsz j (by omega)
          obtain ⟨D, hDe⟩ : ∃ D, wrap64 (S.getD xa 0 - S.getD ya 0) = D := ⟨_, rfl⟩
          have HCD := Lib.hid fun (W : World) (hW : I W) => show Calls Try.prog 67 #[.int .i64 (xa : Int), .int .i64 (ya : Int), .pointer (some a0)] W (fun e w' => e = .returned (.int .i64 D) ∧ Drawn0 W w') by
            have := HCM.out xa ya W hW hxa hya
            rwa [hDe] at this
          simp only [insJ, hxe, hye] at hJ
          unfold less at hJ
          simp only [Int.toNat_natCast, hDe] at hJ
          clear hDe
          have hwj := wj (show j < 100 by omega)
          obtain ⟨J, hJe⟩ : ∃ J, J = j + 1 := ⟨_, rfl⟩
          rw [← hJe] at hwj hjn hjg hxe hJ ⊢
          have hj1 : (J : Int) < (n : Int) := by omega
          have hj2 : (j : Int) < (n : Int) := by omega
          obtain ⟨y0, z0⟩ := Kd.R_celln 0 RT.out (J : Int) (by omega) hj1
          obtain ⟨y1, z1⟩ := Kd.R_celln 0 RT.out (j : Int) (by omega) hj2
          rw [Int.toNat_natCast] at y0 z0 y1 z1
          have hx0 : rdOf 0 zs (J : Int) = xa := hxe
          have hx1 : rdOf 0 zs (j : Int) = ya := hye
          rw [hx0] at y0
          rw [hx1] at y1
          clear hx0 hx1
          have hs0 : decide ((0 : Int) ≤ (J : Int)) = true := decide_eq_true (by omega)
          have hs1 : decide ((J : Int) < (n : Int)) = true := decide_eq_true hj1
          have hR0 : decide ((0 : Int) ≤ (j : Int)) = true := decide_eq_true (by omega)
          have hR1 : decide ((j : Int) < (n : Int)) = true := decide_eq_true hj2
          have hgt : decide ((0 : Int) < (J : Int)) = true := decide_eq_true (by omega)
          have hgtN : decide (0 < J) = true := decide_eq_true (by omega)
          have hgtP : 0 < J := by omega
          have HSZ := Lib.hid hsz
          have HXY := Lib.hid (And.intro hxe hye)
          have HJe := Lib.hid hJe
          have HJ1 := Lib.hid (show J - 1 = j by omega)
          have hjj : j < J := by omega
          clear hsz hxe hye hJe
          by_cases hD : D < 0
          · rw [if_pos (decide_eq_true hD)] at hJ
            have HJ := Lib.hid hJ
            clear hJ
            have hDd : decide (D < 0) = true := decide_eq_true hD
            go_wp2
            refine start_ (n := 17) (S := fun w' => w'.cell? ⟨g, J, none⟩ = some (.int .i64 xa) ∧ w'.cell? ⟨g, j, none⟩ = some (.int .i64 ya)) (ds := []) #[false, false, false, false, false, false, false, false, false, false, false, false, false, false, false, false, false] (by kernel_rfl) rfl rfl ⟨(show wr.drew.cell? ⟨g, J, none⟩ = some (.int .i64 xa) from y0), (show wr.drew.cell? ⟨g, j, none⟩ = some (.int .i64 ya) from y1)⟩ (fun hHeld => ?_)
            refine pure_ (i := 0) (N := some 18) (v := ?_) (a' := ?_) #[true, false, false, false, false, false, false, false, false, false, false, false, false, false, false, false, false] rfl rfl (by kernel_rfl) (fun _ _ _ h => h) (Or.inl ⟨by rfl, ?_⟩) ?_ ?_
            rotate_left
            · intro w'
              go_simp
              with_reducible rfl
            rotate_left
            · simp only [Act.put, List.setIfInBounds_toArray, List.set_cons_zero, List.set_cons_succ, i64_w, i32_w]
              rfl
            refine pure_ (i := 1) (N := some 19) (v := ?_) (a' := ?_) #[true, true, false, false, false, false, false, false, false, false, false, false, false, false, false, false, false] rfl rfl (by kernel_rfl) (fun _ _ _ h => h) (Or.inl ⟨by rfl, ?_⟩) ?_ ?_
            rotate_left
            · intro w'
              go_simp
              with_reducible rfl
            rotate_left
            · simp only [Act.put, List.setIfInBounds_toArray, List.set_cons_zero, List.set_cons_succ, i64_w, i32_w]
              rfl
            refine pure_ (i := 2) (N := some 20) (v := ?_) (a' := ?_) #[true, true, true, false, false, false, false, false, false, false, false, false, false, false, false, false, false] rfl rfl (by kernel_rfl) (fun _ _ _ h => h) (Or.inl ⟨by rfl, ?_⟩) ?_ ?_
            rotate_left
            · intro w'
              go_simp
              with_reducible rfl
            rotate_left
            · simp only [Act.put, List.setIfInBounds_toArray, List.set_cons_zero, List.set_cons_succ, i64_w, i32_w]
              rfl
            refine pure_ (i := 3) (N := some 21) (v := ?_) (a' := ?_) #[true, true, true, true, false, false, false, false, false, false, false, false, false, false, false, false, false] rfl rfl (by kernel_rfl) (fun _ _ _ h => h) (Or.inl ⟨by rfl, ?_⟩) ?_ ?_
            rotate_left
            · intro w'
              go_simp
              with_reducible rfl
            rotate_left
            · simp only [Act.put, List.setIfInBounds_toArray, List.set_cons_zero, List.set_cons_succ, i64_w, i32_w]
              rfl
            refine pure_ (i := 4) (N := some 22) (v := ?_) (a' := ?_) #[true, true, true, true, true, false, false, false, false, false, false, false, false, false, false, false, false] rfl rfl (by kernel_rfl) (fun _ _ _ h => h) (Or.inl ⟨by rfl, ?_⟩) ?_ ?_
            rotate_left
            · intro w'
              go_simp
              with_reducible rfl
            rotate_left
            · simp only [Act.put, List.setIfInBounds_toArray, List.set_cons_zero, List.set_cons_succ, i64_w, i32_w]
              rfl
            refine pure_ (i := 5) (N := some 23) (v := ?_) (a' := ?_) #[true, true, true, true, true, true, false, false, false, false, false, false, false, false, false, false, false] rfl rfl (by kernel_rfl) (fun _ _ _ h => h) (Or.inl ⟨by rfl, ?_⟩) ?_ ?_
            rotate_left
            · intro w'
              go_simp
              with_reducible rfl
            rotate_left
            · simp only [Act.put, List.setIfInBounds_toArray, List.set_cons_zero, List.set_cons_succ, i64_w, i32_w]
              rfl
            refine pure_ (i := 6) (N := some 24) (v := ?_) (a' := ?_) #[true, true, true, true, true, true, true, false, false, false, false, false, false, false, false, false, false] rfl rfl (by kernel_rfl) (fun _ _ _ h => h) (Or.inl ⟨by rfl, ?_⟩) ?_ ?_
            rotate_left
            · intro w'
              go_simp
              with_reducible rfl
            rotate_left
            · simp only [Act.put, List.setIfInBounds_toArray, List.set_cons_zero, List.set_cons_succ, i64_w, i32_w]
              rfl
            refine pure_ (i := 7) (N := some 25) (v := ?_) (a' := ?_) #[true, true, true, true, true, true, true, true, false, false, false, false, false, false, false, false, false] rfl rfl (by kernel_rfl) (fun _ _ _ h => h) (Or.inl ⟨by rfl, ?_⟩) ?_ ?_
            rotate_left
            · intro w'
              go_simp
              with_reducible rfl
            rotate_left
            · simp only [Act.put, List.setIfInBounds_toArray, List.set_cons_zero, List.set_cons_succ, i64_w, i32_w]
              rfl
            refine pure_ (i := 9) (N := some 27) (v := ?_) (a' := ?_) #[true, true, true, true, true, true, true, true, false, true, false, false, false, false, false, false, false] rfl rfl (by kernel_rfl) (fun _ _ _ h => h) (Or.inl ⟨by rfl, ?_⟩) ?_ ?_
            rotate_left
            · intro w'
              go_simp
              with_reducible rfl
            rotate_left
            · simp only [Act.put, List.setIfInBounds_toArray, List.set_cons_zero, List.set_cons_succ, i64_w, i32_w]
              rfl
            refine pure_ (i := 10) (N := some 28) (v := ?_) (a' := ?_) #[true, true, true, true, true, true, true, true, false, true, true, false, false, false, false, false, false] rfl rfl (by kernel_rfl) (fun _ _ _ h => h) (Or.inl ⟨by rfl, ?_⟩) ?_ ?_
            rotate_left
            · intro w'
              go_simp
              with_reducible rfl
            rotate_left
            · simp only [Act.put, List.setIfInBounds_toArray, List.set_cons_zero, List.set_cons_succ, i64_w, i32_w]
              rfl
            refine pure_ (i := 11) (N := some 29) (v := ?_) (a' := ?_) #[true, true, true, true, true, true, true, true, false, true, true, true, false, false, false, false, false] rfl rfl (by kernel_rfl) (fun _ _ _ h => h) (Or.inl ⟨by rfl, ?_⟩) ?_ ?_
            rotate_left
            · intro w'
              go_simp
              with_reducible rfl
            rotate_left
            · simp only [Act.put, List.setIfInBounds_toArray, List.set_cons_zero, List.set_cons_succ, i64_w, i32_w]
              rfl
            refine pure_ (i := 12) (N := some 30) (v := ?_) (a' := ?_) #[true, true, true, true, true, true, true, true, false, true, true, true, true, false, false, false, false] rfl rfl (by kernel_rfl) (fun _ _ _ h => h) (Or.inl ⟨by rfl, ?_⟩) ?_ ?_
            rotate_left
            · intro w'
              go_simp
              with_reducible rfl
            rotate_left
            · simp only [Act.put, List.setIfInBounds_toArray, List.set_cons_zero, List.set_cons_succ, i64_w, i32_w]
              rfl
            refine take_ (i := 8) (N := some 26) (v := ?_) (a' := ?_) #[true, true, true, true, true, true, true, true, true, true, true, true, true, false, false, false, false] rfl rfl (by kernel_rfl) (fun _ _ _ h => h) (Or.inl ⟨by rfl, ?_⟩) hHeld ?_ ?_
            rotate_left
            · rintro w' ⟨s0, s1⟩
              go_simp
              with_reducible rfl
            rotate_left
            · simp only [Act.put, List.setIfInBounds_toArray, List.set_cons_zero, List.set_cons_succ, i64_w, i32_w]
              rfl
            refine take_ (i := 13) (N := some 31) (v := ?_) (a' := ?_) #[true, true, true, true, true, true, true, true, true, true, true, true, true, true, false, false, false] rfl rfl (by kernel_rfl) (fun _ _ _ h => h) (Or.inl ⟨by rfl, ?_⟩) hHeld ?_ ?_
            rotate_left
            · rintro w' ⟨s0, s1⟩
              go_simp
              with_reducible rfl
            rotate_left
            · simp only [Act.put, List.setIfInBounds_toArray, List.set_cons_zero, List.set_cons_succ, i64_w, i32_w]
              rfl
            refine one_ (i := 14) (N := some 32) #[true, true, true, true, true, true, true, true, true, true, true, true, true, true, true, false, false] rfl rfl (by kernel_rfl) (by decide) (fun K hK => ?_)
            refine goesF_ Try.func67 (by kernel_rfl) rfl #[.int .i64 (xa : Int), .int .i64 (ya : Int)] (by rfl) rfl rfl rfl (by simp only [List.map_toArray, List.map_cons, List.map_nil]; rfl) ?_
            show Calls Try.prog 67 #[.int .i64 (xa : Int), .int .i64 (ya : Int), .pointer (some a0)] _ _
            with_reducible refine (HCD.out _ (HI.out.1 _ BI.out)).mono ?_
            rintro e w5 ⟨rfl, m5, rfl⟩
            refine ⟨_, rfl, ?_⟩
            refine hK.out _ _ ⟨pw_cell_below (pw_below_drewN (Below.refl _ _) _) hHeld.1, pw_cell_below (pw_below_drewN (Below.refl _ _) _) hHeld.2⟩ (fun hHeld => ?_)
            clear hK K
            refine norm_ (a' := ?_) ?_ ?_
            rotate_left
            · show Act.put _ (some 32) _ = _
              simp only [Act.put, List.setIfInBounds_toArray, List.set_cons_zero, List.set_cons_succ, i64_w, i32_w]
              rfl
            refine pure_ (i := 15) (N := some 33) (v := ?_) (a' := ?_) #[true, true, true, true, true, true, true, true, true, true, true, true, true, true, true, true, false] rfl rfl (by kernel_rfl) (fun _ _ _ h => h) (Or.inl ⟨by rfl, ?_⟩) ?_ ?_
            rotate_left
            · intro w'
              go_simp
              with_reducible rfl
            rotate_left
            · simp only [Act.put, List.setIfInBounds_toArray, List.set_cons_zero, List.set_cons_succ, i64_w, i32_w]
              rfl
            refine pure_ (i := 16) (N := some 34) (v := ?_) (a' := ?_) #[true, true, true, true, true, true, true, true, true, true, true, true, true, true, true, true, true] rfl rfl (by kernel_rfl) (fun _ _ _ h => h) (Or.inl ⟨by rfl, ?_⟩) ?_ ?_
            rotate_left
            · intro w'
              go_simp
              with_reducible rfl
            rotate_left
            · simp only [Act.put, List.setIfInBounds_toArray, List.set_cons_zero, List.set_cons_succ, i64_w, i32_w]
              rfl
            refine done_ (by kernel_rfl) ?_

            first
              | refine reletE (F := fun w' => Kd.R (Kd.int .i64) 2 w' b ok (.slice (some ⟨g, 0, none⟩) n cap) zs ∧ I w' ∧ (w'.cell? ⟨g, J, none⟩ = some (.int .i64 xa) ∧ w'.frozen? ⟨g, J, none⟩ = false) ∧ (w'.cell? ⟨g, J - 1, none⟩ = some (.int .i64 ya) ∧ w'.frozen? ⟨g, J - 1, none⟩ = false)) ⟨Kd.R_drewN (Kd.R_drew RT.out) _, HI.out.2.1 _ _ (HI.out.1 _ BI.out), ⟨y0, z0⟩, ⟨by rw [HJ1.out]; exact y1, by rw [HJ1.out]; exact z1⟩⟩ ?_
              | refine reletI (F := fun w' => Kd.R (Kd.int .i64) 2 w' b ok (.slice (some ⟨g, 0, none⟩) n cap) zs ∧ I w' ∧ (w'.cell? ⟨g, J, none⟩ = some (.int .i64 xa) ∧ w'.frozen? ⟨g, J, none⟩ = false) ∧ (w'.cell? ⟨g, J - 1, none⟩ = some (.int .i64 ya) ∧ w'.frozen? ⟨g, J - 1, none⟩ = false)) ⟨Kd.R_drewN (Kd.R_drew RT.out) _, HI.out.2.1 _ _ (HI.out.1 _ BI.out), ⟨y0, z0⟩, ⟨by rw [HJ1.out]; exact y1, by rw [HJ1.out]; exact z1⟩⟩ ?_
              | refine reletC (F := fun w' => Kd.R (Kd.int .i64) 2 w' b ok (.slice (some ⟨g, 0, none⟩) n cap) zs ∧ I w' ∧ (w'.cell? ⟨g, J, none⟩ = some (.int .i64 xa) ∧ w'.frozen? ⟨g, J, none⟩ = false) ∧ (w'.cell? ⟨g, J - 1, none⟩ = some (.int .i64 ya) ∧ w'.frozen? ⟨g, J - 1, none⟩ = false)) ⟨Kd.R_drewN (Kd.R_drew RT.out) _, HI.out.2.1 _ _ (HI.out.1 _ BI.out), ⟨y0, z0⟩, ⟨by rw [HJ1.out]; exact y1, by rw [HJ1.out]; exact z1⟩⟩ ?_
            rintro w6 ⟨r6, b6, c0, c1⟩
            have R6 := Aside0.mk r6
            have B6 := Aside0.mk b6
            clear r6 b6 RT BI y0 y1 z0 z1 hDd
            obtain ⟨d0, f0⟩ := c0
            obtain ⟨d1, f1⟩ := c1
            have k0 : ∀ v, (w6.setCell ⟨g, J - 1, none⟩ v).cell? ⟨g, J, none⟩ = some (.int .i64 xa) := fun v => by rw [World.cell?_setCell_other _ _ _ _ (by intro e; injection e with _ e2 _; omega)]; exact d0
            have k1 : ∀ v, (w6.setCell ⟨g, J, none⟩ v).cell? ⟨g, J - 1, none⟩ = some (.int .i64 ya) := fun v => by rw [World.cell?_setCell_other _ _ _ _ (by intro e; injection e with _ e2 _; omega)]; exact d1
            go_wp2
            have RP := Aside0.mk (Kd.R_putn (Kd.R_putn R6.out (J : Int) ya) ((J - 1 : Nat) : Int) xa)
            have hsw : (zs.set J (ya : Int)).set (J - 1) (xa : Int) = swapL zs J := by
              unfold swapL
              rw [HJ1.out, HXY.out.1, HXY.out.2]
            have HSW := Lib.hid hsw
            clear hsw
            go_region
            first
              | refine reletE (F := fun w' => Kd.R (Kd.int .i64) 2 w' b ok (.slice (some ⟨g, 0, none⟩) n cap) (swapL zs J) ∧ I w') ⟨by rw [← HSW.out]; exact Kd.R_drew RP.out, HI.out.1 _ (HI.out.2.2 _ _ _ (HI.out.2.2 _ _ _ B6.out))⟩ ?_
              | refine reletI (F := fun w' => Kd.R (Kd.int .i64) 2 w' b ok (.slice (some ⟨g, 0, none⟩) n cap) (swapL zs J) ∧ I w') ⟨by rw [← HSW.out]; exact Kd.R_drew RP.out, HI.out.1 _ (HI.out.2.2 _ _ _ (HI.out.2.2 _ _ _ B6.out))⟩ ?_
              | refine reletC (F := fun w' => Kd.R (Kd.int .i64) 2 w' b ok (.slice (some ⟨g, 0, none⟩) n cap) (swapL zs J) ∧ I w') ⟨by rw [← HSW.out]; exact Kd.R_drew RP.out, HI.out.1 _ (HI.out.2.2 _ _ _ (HI.out.2.2 _ _ _ B6.out))⟩ ?_
            rintro w7 ⟨r7, b7⟩
            have R7 := Aside0.mk r7
            have B7 := Aside0.mk b7
            clear r7 b7
            go_wp2
            go_roundg j
            case measure => omega
            case rel => exact ⟨j, swapL zs J, Nat.le_refl _, by omega, by rw [show (j : Int) = (J : Int) - 1 by have := HJe.out; omega], HJ.out, Smp.swap HSZ.out (by omega), by rw [swapL_length]; exact hlz, R7, B7⟩
          · rw [if_neg (by rw [decide_eq_true_eq]; exact hD)] at hJ
            have HJ := Lib.hid hJ
            clear hJ
            have hDd : decide (D < 0) = false := decide_eq_false hD
            go_wp2
            refine start_ (n := 17) (S := fun w' => w'.cell? ⟨g, J, none⟩ = some (.int .i64 xa) ∧ w'.cell? ⟨g, j, none⟩ = some (.int .i64 ya)) (ds := []) #[false, false, false, false, false, false, false, false, false, false, false, false, false, false, false, false, false] (by kernel_rfl) rfl rfl ⟨(show wr.drew.cell? ⟨g, J, none⟩ = some (.int .i64 xa) from y0), (show wr.drew.cell? ⟨g, j, none⟩ = some (.int .i64 ya) from y1)⟩ (fun hHeld => ?_)
            refine pure_ (i := 0) (N := some 18) (v := ?_) (a' := ?_) #[true, false, false, false, false, false, false, false, false, false, false, false, false, false, false, false, false] rfl rfl (by kernel_rfl) (fun _ _ _ h => h) (Or.inl ⟨by rfl, ?_⟩) ?_ ?_
            rotate_left
            · intro w'
              go_simp
              with_reducible rfl
            rotate_left
            · simp only [Act.put, List.setIfInBounds_toArray, List.set_cons_zero, List.set_cons_succ, i64_w, i32_w]
              rfl
            refine pure_ (i := 1) (N := some 19) (v := ?_) (a' := ?_) #[true, true, false, false, false, false, false, false, false, false, false, false, false, false, false, false, false] rfl rfl (by kernel_rfl) (fun _ _ _ h => h) (Or.inl ⟨by rfl, ?_⟩) ?_ ?_
            rotate_left
            · intro w'
              go_simp
              with_reducible rfl
            rotate_left
            · simp only [Act.put, List.setIfInBounds_toArray, List.set_cons_zero, List.set_cons_succ, i64_w, i32_w]
              rfl
            refine pure_ (i := 2) (N := some 20) (v := ?_) (a' := ?_) #[true, true, true, false, false, false, false, false, false, false, false, false, false, false, false, false, false] rfl rfl (by kernel_rfl) (fun _ _ _ h => h) (Or.inl ⟨by rfl, ?_⟩) ?_ ?_
            rotate_left
            · intro w'
              go_simp
              with_reducible rfl
            rotate_left
            · simp only [Act.put, List.setIfInBounds_toArray, List.set_cons_zero, List.set_cons_succ, i64_w, i32_w]
              rfl
            refine pure_ (i := 3) (N := some 21) (v := ?_) (a' := ?_) #[true, true, true, true, false, false, false, false, false, false, false, false, false, false, false, false, false] rfl rfl (by kernel_rfl) (fun _ _ _ h => h) (Or.inl ⟨by rfl, ?_⟩) ?_ ?_
            rotate_left
            · intro w'
              go_simp
              with_reducible rfl
            rotate_left
            · simp only [Act.put, List.setIfInBounds_toArray, List.set_cons_zero, List.set_cons_succ, i64_w, i32_w]
              rfl
            refine pure_ (i := 4) (N := some 22) (v := ?_) (a' := ?_) #[true, true, true, true, true, false, false, false, false, false, false, false, false, false, false, false, false] rfl rfl (by kernel_rfl) (fun _ _ _ h => h) (Or.inl ⟨by rfl, ?_⟩) ?_ ?_
            rotate_left
            · intro w'
              go_simp
              with_reducible rfl
            rotate_left
            · simp only [Act.put, List.setIfInBounds_toArray, List.set_cons_zero, List.set_cons_succ, i64_w, i32_w]
              rfl
            refine pure_ (i := 5) (N := some 23) (v := ?_) (a' := ?_) #[true, true, true, true, true, true, false, false, false, false, false, false, false, false, false, false, false] rfl rfl (by kernel_rfl) (fun _ _ _ h => h) (Or.inl ⟨by rfl, ?_⟩) ?_ ?_
            rotate_left
            · intro w'
              go_simp
              with_reducible rfl
            rotate_left
            · simp only [Act.put, List.setIfInBounds_toArray, List.set_cons_zero, List.set_cons_succ, i64_w, i32_w]
              rfl
            refine pure_ (i := 6) (N := some 24) (v := ?_) (a' := ?_) #[true, true, true, true, true, true, true, false, false, false, false, false, false, false, false, false, false] rfl rfl (by kernel_rfl) (fun _ _ _ h => h) (Or.inl ⟨by rfl, ?_⟩) ?_ ?_
            rotate_left
            · intro w'
              go_simp
              with_reducible rfl
            rotate_left
            · simp only [Act.put, List.setIfInBounds_toArray, List.set_cons_zero, List.set_cons_succ, i64_w, i32_w]
              rfl
            refine pure_ (i := 7) (N := some 25) (v := ?_) (a' := ?_) #[true, true, true, true, true, true, true, true, false, false, false, false, false, false, false, false, false] rfl rfl (by kernel_rfl) (fun _ _ _ h => h) (Or.inl ⟨by rfl, ?_⟩) ?_ ?_
            rotate_left
            · intro w'
              go_simp
              with_reducible rfl
            rotate_left
            · simp only [Act.put, List.setIfInBounds_toArray, List.set_cons_zero, List.set_cons_succ, i64_w, i32_w]
              rfl
            refine pure_ (i := 9) (N := some 27) (v := ?_) (a' := ?_) #[true, true, true, true, true, true, true, true, false, true, false, false, false, false, false, false, false] rfl rfl (by kernel_rfl) (fun _ _ _ h => h) (Or.inl ⟨by rfl, ?_⟩) ?_ ?_
            rotate_left
            · intro w'
              go_simp
              with_reducible rfl
            rotate_left
            · simp only [Act.put, List.setIfInBounds_toArray, List.set_cons_zero, List.set_cons_succ, i64_w, i32_w]
              rfl
            refine pure_ (i := 10) (N := some 28) (v := ?_) (a' := ?_) #[true, true, true, true, true, true, true, true, false, true, true, false, false, false, false, false, false] rfl rfl (by kernel_rfl) (fun _ _ _ h => h) (Or.inl ⟨by rfl, ?_⟩) ?_ ?_
            rotate_left
            · intro w'
              go_simp
              with_reducible rfl
            rotate_left
            · simp only [Act.put, List.setIfInBounds_toArray, List.set_cons_zero, List.set_cons_succ, i64_w, i32_w]
              rfl
            refine pure_ (i := 11) (N := some 29) (v := ?_) (a' := ?_) #[true, true, true, true, true, true, true, true, false, true, true, true, false, false, false, false, false] rfl rfl (by kernel_rfl) (fun _ _ _ h => h) (Or.inl ⟨by rfl, ?_⟩) ?_ ?_
            rotate_left
            · intro w'
              go_simp
              with_reducible rfl
            rotate_left
            · simp only [Act.put, List.setIfInBounds_toArray, List.set_cons_zero, List.set_cons_succ, i64_w, i32_w]
              rfl
            refine pure_ (i := 12) (N := some 30) (v := ?_) (a' := ?_) #[true, true, true, true, true, true, true, true, false, true, true, true, true, false, false, false, false] rfl rfl (by kernel_rfl) (fun _ _ _ h => h) (Or.inl ⟨by rfl, ?_⟩) ?_ ?_
            rotate_left
            · intro w'
              go_simp
              with_reducible rfl
            rotate_left
            · simp only [Act.put, List.setIfInBounds_toArray, List.set_cons_zero, List.set_cons_succ, i64_w, i32_w]
              rfl
            refine take_ (i := 8) (N := some 26) (v := ?_) (a' := ?_) #[true, true, true, true, true, true, true, true, true, true, true, true, true, false, false, false, false] rfl rfl (by kernel_rfl) (fun _ _ _ h => h) (Or.inl ⟨by rfl, ?_⟩) hHeld ?_ ?_
            rotate_left
            · rintro w' ⟨s0, s1⟩
              go_simp
              with_reducible rfl
            rotate_left
            · simp only [Act.put, List.setIfInBounds_toArray, List.set_cons_zero, List.set_cons_succ, i64_w, i32_w]
              rfl
            refine take_ (i := 13) (N := some 31) (v := ?_) (a' := ?_) #[true, true, true, true, true, true, true, true, true, true, true, true, true, true, false, false, false] rfl rfl (by kernel_rfl) (fun _ _ _ h => h) (Or.inl ⟨by rfl, ?_⟩) hHeld ?_ ?_
            rotate_left
            · rintro w' ⟨s0, s1⟩
              go_simp
              with_reducible rfl
            rotate_left
            · simp only [Act.put, List.setIfInBounds_toArray, List.set_cons_zero, List.set_cons_succ, i64_w, i32_w]
              rfl
            refine one_ (i := 14) (N := some 32) #[true, true, true, true, true, true, true, true, true, true, true, true, true, true, true, false, false] rfl rfl (by kernel_rfl) (by decide) (fun K hK => ?_)
            refine goesF_ Try.func67 (by kernel_rfl) rfl #[.int .i64 (xa : Int), .int .i64 (ya : Int)] (by rfl) rfl rfl rfl (by simp only [List.map_toArray, List.map_cons, List.map_nil]; rfl) ?_
            show Calls Try.prog 67 #[.int .i64 (xa : Int), .int .i64 (ya : Int), .pointer (some a0)] _ _
            with_reducible refine (HCD.out _ (HI.out.1 _ BI.out)).mono ?_
            rintro e w5 ⟨rfl, m5, rfl⟩
            refine ⟨_, rfl, ?_⟩
            refine hK.out _ _ ⟨pw_cell_below (pw_below_drewN (Below.refl _ _) _) hHeld.1, pw_cell_below (pw_below_drewN (Below.refl _ _) _) hHeld.2⟩ (fun hHeld => ?_)
            clear hK K
            refine norm_ (a' := ?_) ?_ ?_
            rotate_left
            · show Act.put _ (some 32) _ = _
              simp only [Act.put, List.setIfInBounds_toArray, List.set_cons_zero, List.set_cons_succ, i64_w, i32_w]
              rfl
            refine pure_ (i := 15) (N := some 33) (v := ?_) (a' := ?_) #[true, true, true, true, true, true, true, true, true, true, true, true, true, true, true, true, false] rfl rfl (by kernel_rfl) (fun _ _ _ h => h) (Or.inl ⟨by rfl, ?_⟩) ?_ ?_
            rotate_left
            · intro w'
              go_simp
              with_reducible rfl
            rotate_left
            · simp only [Act.put, List.setIfInBounds_toArray, List.set_cons_zero, List.set_cons_succ, i64_w, i32_w]
              rfl
            refine pure_ (i := 16) (N := some 34) (v := ?_) (a' := ?_) #[true, true, true, true, true, true, true, true, true, true, true, true, true, true, true, true, true] rfl rfl (by kernel_rfl) (fun _ _ _ h => h) (Or.inl ⟨by rfl, ?_⟩) ?_ ?_
            rotate_left
            · intro w'
              go_simp
              with_reducible rfl
            rotate_left
            · simp only [Act.put, List.setIfInBounds_toArray, List.set_cons_zero, List.set_cons_succ, i64_w, i32_w]
              rfl
            refine done_ (by kernel_rfl) ?_

            go_wp2
            go_roundg (n - (i + 1))
            case measure => omega
            case rel => exact ⟨i + 1, by omega, by omega, by omega, by go_num, ⟨by rw [show i + 1 - 1 = i by omega, HNX.out, ← HJ.out]; exact Kd.R_drewN RT.out _⟩, ⟨HI.out.2.1 _ _ BI.out⟩⟩
    · have hltz : ¬ (i : Int) < (n : Int) := by omega
      obtain rfl : i = n := by omega
      go_wp2
      go_end0
      exact ⟨rfl, RT.out, BI.out⟩
set_option maxHeartbeats 8000000 in
set_option maxRecDepth 100000 in
theorem stableW (n g cap b : Nat) (ok : Nat → Prop) (a0 : Addr) (q : Nat) (S xs : List Int) (w : World) (I : World → Prop) (hI0 : ∀ W, I W → I W.drew) (hI1 : ∀ W m, I W → I (W.drewN m)) (hI2 : ∀ W o v, I W → I (W.setCell ⟨g, o, none⟩ v)) (hn1 : 1 ≤ n) (hn : n ≤ 19) (hl : xs.length = n) (hs : Smp q xs) (hgb : b ≤ g) (hok : ok g)
    (hcm : ∀ (x y : Nat) (W : World), I W → x < q → y < q → Calls Try.prog 67 #[.int .i64 x, .int .i64 y, .pointer (some a0)] W fun e w' => e = .returned (.int .i64 (wrap64 (S.getD x 0 - S.getD y 0))) ∧ Drawn0 W w')
    (hR : Kd.R (Kd.int .i64) 2 w b ok (.slice (some ⟨g, 0, none⟩) n cap) xs) (hB : I w) :
    Calls Try.prog 106 #[.slice (some ⟨g, 0, none⟩) n cap, .int .i64 n, .func (.func 67) #[] #[.pointer (some a0)]] w fun e w' => e = .returned (.tuple #[]) ∧ Kd.R (Kd.int .i64) 2 w' b ok (.slice (some ⟨g, 0, none⟩) n cap) (insI S xs (n - 1)) ∧ I w' := by
  have HW := Lib.hid fun (W : World) (h1 : Kd.R (Kd.int .i64) 2 W b ok (.slice (some ⟨g, 0, none⟩) n cap) xs) (h2 : I W) => insW n g cap b ok a0 q S xs W I hI0 hI1 hI2 hn1 (by omega) hl hs hgb hok hcm h1 h2
  have RT := Aside0.mk hR
  have BI := Aside0.mk hB
  clear hcm hR hB hs hl hI0 hI1 hI2
  have hc : ¬ (20 : Int) ≤ (n : Int) := by omega
  have hc2 : ¬ (20 : Int) < (n : Int) := by omega
  go_enter Try.func106, Try.ntmps106
  go_wp2
  go_loopg [7, 8] 0 (fun gg v7 v8 wi => v7 = .int .i64 0 ∧ v8 = .int .i64 20 ∧ wi = w)
  case atStart => exact ⟨rfl, rfl, rfl⟩
  case round =>
    obtain ⟨rfl, rfl, rfl⟩ := hrel
    go_wp2_with (go_at_call 134; refine (HW.out _ RT.out BI.out).mono ?_; rintro e w2 ⟨rfl, r2, i2⟩; have R2 := Aside0.mk r2; have I2 := Aside0.mk i2; clear r2 i2)
    go_loopg [6, 7, 8, 9] 0 (fun gg v6 v7 v8 v9 wi => v6 = .int .i64 20 ∧ wi = w2)
    case atStart => exact ⟨rfl, rfl⟩
    case round =>
      obtain ⟨rfl, rfl⟩ := hrel
      go_wp2
      go_end0
      exact ⟨rfl, R2.out, I2.out⟩
set_option maxHeartbeats 4000000 in
set_option maxRecDepth 100000 in
theorem sortW (n g cap b : Nat) (ok : Nat → Prop) (a0 : Addr) (q : Nat) (S xs : List Int) (w : World) (I : World → Prop) (hI0 : ∀ W, I W → I W.drew) (hI1 : ∀ W m, I W → I (W.drewN m)) (hI2 : ∀ W o v, I W → I (W.setCell ⟨g, o, none⟩ v)) (hn1 : 1 ≤ n) (hn : n ≤ 19) (hl : xs.length = n) (hs : Smp q xs) (hgb : b ≤ g) (hok : ok g)
    (hcm : ∀ (x y : Nat) (W : World), I W → x < q → y < q → Calls Try.prog 67 #[.int .i64 x, .int .i64 y, .pointer (some a0)] W fun e w' => e = .returned (.int .i64 (wrap64 (S.getD x 0 - S.getD y 0))) ∧ Drawn0 W w')
    (hR : Kd.R (Kd.int .i64) 2 w b ok (.slice (some ⟨g, 0, none⟩) n cap) xs) (hB : I w) :
    Calls Try.prog 66 #[.slice (some ⟨g, 0, none⟩) n cap, .func (.func 67) #[] #[.pointer (some a0)]] w fun e w' => e = .returned (.tuple #[]) ∧ Kd.R (Kd.int .i64) 2 w' b ok (.slice (some ⟨g, 0, none⟩) n cap) (insI S xs (n - 1)) ∧ I w' := by
  have HW := Lib.hid (stableW n g cap b ok a0 q S xs w I hI0 hI1 hI2 hn1 hn hl hs hgb hok hcm hR hB)
  clear hcm hR hB hs hl hI0 hI1 hI2
  go_enter Try.func66, Try.ntmps66
  go_wp2_with (go_at_call 106; refine HW.out.mono ?_; rintro e w2 ⟨rfl, r2, i2⟩; have R2 := Aside0.mk r2; have I2 := Aside0.mk i2; clear r2 i2)
  go_end0
  exact ⟨rfl, R2.out, I2.out⟩
end SumW
end Go.Proofs.Ytepokbejmnkogaa.G
