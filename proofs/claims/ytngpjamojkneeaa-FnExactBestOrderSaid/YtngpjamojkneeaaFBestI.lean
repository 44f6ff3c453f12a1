/- impl.bestOrder, walked by hand. Printed by wip/tools/best.py. -/
import Derived.Test.YtngpjamojkneeaaFBestW
import Derived.Test.YtngpjamojkneeaaFLibPairs
import Derived.BigQuiet
import Derived.ChangeAlike
import Derived.Outline
namespace Go.Proofs.Ytngpjamojkneeaa.G
open Go.RowKit Go.Proofs.YtngpjamojkneeaaW.PrintWords Go.Proofs.YtngpjamojkneeaaW.PrintLast Go.Proofs.YtngpjamojkneeaaW.PrintMore
attribute [local go_sem] max2_int min2_int max_two min_two max_three min_three max_four min_four   -- for this text's walks alone
set_option linter.unusedVariables false
set_option linter.unusedSimpArgs false

open Go.Proofs.Ytngpjamojkneeaa.Wk Go.Proofs.Ytngpjamojkneeaa.Pl Go.Proofs.Ytngpjamojkneeaa.Best
namespace Best
abbrev RI (W : World) (base : Nat) (v : Value) (xs : List Int) : Prop := Kd.R (Kd.int .i64) 2 W base (fun _ => True) v xs
theorem reletC {P : Program} {c : Code} {Q : Exit → Act → World → Prop} {a : Act} {W : World} (F : World → Prop) (hF : F W) (h : ∀ w', F w' → Code.wp P c Q a w') : Code.wp P c Q a W := h W hF
theorem reletE {K : Act → World → Prop} {Q : Exit → Act → World → Prop} {e : Exit} {a : Act} {W : World} (F : World → Prop) (hF : F W) (h : ∀ w', F w' → Exit.then K Q e a w') : Exit.then K Q e a W := h W hF
theorem reletI {n : Nat} {K : Exit → Act → World → Prop} {e : Exit} {a : Act} {W : World} (F : World → Prop) (hF : F W) (h : ∀ w', F w' → Exit.inBlock n K e a w') : Exit.inBlock n K e a W := h W hF
theorem Sq.row {s : Nat} {t : List (List Int)} (h : Sq s t) (j : Nat) (hj : j < s) : (t.getD j []).length = s := h.2 j hj
theorem R_empty {W : World} {base : Nat} {ok : Nat → Prop} (hb : base ≤ W.heap.size) (hok : ok W.heap.size) : Kd.R (Kd.int .i64) 2 (W.alloc (.cells #[] 2)) base ok (.slice (some ⟨W.heap.size, 0, none⟩) 0 0) [] := by
  have h := own_lit W base 2 .i64 [] hb (by simp)
  exact Kd.R_of_own h (fun k hk => by
    have : W.heap.size = k := by simpa [Value.ownBlock] using hk
    rw [← this]; exact hok)
end Best
open Best
set_option maxHeartbeats 16000000 in
set_option maxRecDepth 100000 in
theorem bestI (q : Nat) (hq1 : 1 ≤ q) (hq : q ≤ 8) (A1 : Option Addr) (c1 : Nat) (l1 : List (List Int)) (pr : List (List Int)) (kp : Nat) (r1 : List Int) (r2 : Int) (w : World) (hr1 : Kd.C (Kd.slice 2 (Kd.int .i64)) w A1 l1.length l1) (hc1 : l1.length ≤ c1)
    (hp : impl_pairs.f kp q l1 = some pr) (hsq : Sq q pr) (h : bestOI pr q = some (r1, r2)) :
    Calls Try.prog 32 #[.int .i64 q, .slice A1 l1.length c1] w fun e w' => ∃ v : Value, e = .returned (.tuple #[v, .int .i64 r2]) ∧ RI w' w.heap.size v r1 ∧ Below w.heap.size w w' := by
  have HR := Aside0.mk hr1
  have HP := Lib.hid hp
  have HH := Lib.hid h
  have HSQ := Aside0.mk hsq
  clear hr1 hp h hsq
  have B0 := Aside0.mk ((Below.refl w.heap.size w).alloc (Nat.le_refl _) (.cells #[.int .i64 q] 2))
  obtain ⟨Z, hZ⟩ : ∃ Z : Nat, Z = 2 ^ q := ⟨_, rfl⟩
  have hZb : 2 ≤ Z ∧ Z ≤ 256 := by
    rw [hZ]
    have : q = 1 ∨ q = 2 ∨ q = 3 ∨ q = 4 ∨ q = 5 ∨ q = 6 ∨ q = 7 ∨ q = 8 := by omega
    rcases this with rfl | rfl | rfl | rfl | rfl | rfl | rfl | rfl <;> decide
  have hz : (2 : Int) ^ q = (Z : Int) := by rw [hZ]; simp
  have HZ := Lib.hid hZ
  clear hZ
  have hlen := HSQ.out.1
  go_enter Try.func32, Try.ntmps32
  go_upto_region 2 with (first | (go_at_call 36; (refine (impl_pairs.calls kp q A1 c1 l1 pr _ (Kd.C_below HR.out B0.out) hc1 HP.out).mono ?_; rintro e w1 ⟨v19, rfl, hS, hb⟩; have B1 := Aside0.mk (below_then B0.out B0.out.size hb); have S1 := Aside0.mk hS; have b0 := pw_cell_below hb (show (w.alloc (.cells #[.int .i64 q] 2)).cell? ⟨w.heap.size, 0, none⟩ = some (.int .i64 q) by simp); clear hS hb; obtain ⟨A19, c19, rfl⟩ := Kd.S_slice S1.out)))
  first
    | refine reletE (F := fun w' => w'.cell? ⟨w.heap.size, 0, none⟩ = some (.int .i64 q) ∧ w'.cell? ⟨w1.heap.size, 0, none⟩ = some (.slice A19 q c19) ∧ Kd.C (Kd.slice 2 (Kd.int .i64)) w' A19 q pr ∧ Below w.heap.size w w') ⟨pw_cell_below (below_alloc (Below.refl _ _) _) b0, by rw [World.cell?_alloc_at _ _ _ _ (by simp)]; simp [hlen], by rw [← hlen]; exact Kd.C_below (Kd.S_reads' S1.out).2.2 (below_alloc (Below.refl _ _) _), below_alloc B1.out _⟩ ?_
    | refine reletI (F := fun w' => w'.cell? ⟨w.heap.size, 0, none⟩ = some (.int .i64 q) ∧ w'.cell? ⟨w1.heap.size, 0, none⟩ = some (.slice A19 q c19) ∧ Kd.C (Kd.slice 2 (Kd.int .i64)) w' A19 q pr ∧ Below w.heap.size w w') ⟨pw_cell_below (below_alloc (Below.refl _ _) _) b0, by rw [World.cell?_alloc_at _ _ _ _ (by simp)]; simp [hlen], by rw [← hlen]; exact Kd.C_below (Kd.S_reads' S1.out).2.2 (below_alloc (Below.refl _ _) _), below_alloc B1.out _⟩ ?_
    | refine reletC (F := fun w' => w'.cell? ⟨w.heap.size, 0, none⟩ = some (.int .i64 q) ∧ w'.cell? ⟨w1.heap.size, 0, none⟩ = some (.slice A19 q c19) ∧ Kd.C (Kd.slice 2 (Kd.int .i64)) w' A19 q pr ∧ Below w.heap.size w w') ⟨pw_cell_below (below_alloc (Below.refl _ _) _) b0, by rw [World.cell?_alloc_at _ _ _ _ (by simp)]; simp [hlen], by rw [← hlen]; exact Kd.C_below (Kd.S_reads' S1.out).2.2 (below_alloc (Below.refl _ _) _), below_alloc B1.out _⟩ ?_
  rintro W0 ⟨X0, X1, XC, XB⟩
  have XH := Aside0.mk (And.intro X0 (And.intro X1 (And.intro XC XB)))
  clear X1 XC XB S1 B1 b0 B0 HR HP
  have zn : (0 : Int) ≤ (Z : Int) := by omega
  go_wp2_with ((with_reducible refine gate_dst (N := 22) rfl ?_); refine Kd.R_make (Kd.int .i64) _ 2 rfl (N := 22) rfl 24 _ _ rfl (Z : Int) rfl rfl Try.underlying24 (.int .i64 0) 8 info2 rfl (by decide) (by omega) 0 (ok := fun _ => True) (okp := fun _ => True) rfl (fun _ hk => hk) trivial zn (by simp only [Int.toNat_natCast]; omega) (Below.refl _ _) (Nat.le_refl _) ?_; intro v7 w4 ho9 hb hg_ hnew_; rw [Int.toNat_natCast] at ho9; have R7 := Aside0.mk ho9; have B7 := Aside0.mk hb; clear hg_ hnew_ ho9 hb X0)
  obtain ⟨g, cap, e7, hgb, -, -⟩ := Kd.R_form R7.out (by simp; omega)
  rw [List.length_replicate] at e7
  subst e7
  go_loopg [9] Z (fun gg v9 wr => ∃ s : Nat, 1 ≤ s ∧ s ≤ Z ∧ Z - s ≤ gg ∧ v9 = .int .i64 s ∧ Aside0 (RI wr W0.heap.size (.slice (some ⟨g, 0, none⟩) Z cap) (tabI pr q (s - 1))) ∧ Aside0 (Below W0.heap.size W0 wr))
  case atStart => exact ⟨1, Nat.le_refl _, by omega, by omega, rfl, by rw [HZ.out] at R7 ⊢; exact R7, B7⟩
  case round =>
    clear R7 B7
    obtain ⟨s, hs1, hsZ, hgg, rfl, R7, B7⟩ := hrel
    have X0 := pw_cell_below B7.out XH.out.1
    by_cases hlt : s < Z
    · have hltz : (s : Int) < (Z : Int) := by omega
      have hs : s < 256 := by omega
      have RT := Aside0.mk (show RI wr W0.heap.size (.slice (some ⟨g, 0, none⟩) Z cap) (rowI pr q s (tabI pr q (s - 1)) 0) from R7.out)
      have htl : ∀ n, (rowI pr q s (tabI pr q (s - 1)) n).length = Z := fun n => by rw [rowI_length, tabI_length, HZ.out]
      have HTL := Aside0.mk htl
      clear htl
      go_wp2
      obtain ⟨wo, rfl⟩ : ∃ wo : World, wo = wr := ⟨_, rfl⟩
      go_loopg [31] q (fun gg v31 wi => ∃ i : Nat, i ≤ q ∧ q - i ≤ gg ∧ v31 = .int .i64 i ∧ Aside0 (RI wi W0.heap.size (.slice (some ⟨g, 0, none⟩) Z cap) (rowI pr q s (tabI pr q (s - 1)) i)) ∧ Aside0 (Below W0.heap.size W0 wi))
      case atStart => exact ⟨0, Nat.zero_le _, by omega, rfl, RT, B7⟩
      case round =>
        clear RT B7 X0
        obtain ⟨i, hiq, hgi, rfl, RT, BI⟩ := hrel
        have X0 := pw_cell_below BI.out XH.out.1
        by_cases hi : i < q
        · have hi' : (i : Int) < (q : Int) := by omega
          obtain ⟨R, hR⟩ : ∃ R, R = rs s i := ⟨_, rfl⟩
          obtain ⟨⟨-, hand, -⟩, hRs, hbR⟩ := bits_at hs (show i < 8 by omega)
          rw [← hR] at hand hRs hbR
          obtain ⟨p2, hp2, hp2b⟩ := pow_i (show i < 8 by omega)
          rw [hp2] at hand
          have hr256 : R < 256 := by omega
          have hnext := rowI_succ pr q s (tabI pr q (s - 1)) i
          unfold updI at hnext
          rw [← hR] at hnext
          have hLl := HTL.out i
          generalize rowI pr q s (tabI pr q (s - 1)) i = L at RT hnext hLl
          have HRR := Lib.hid hR
          clear hR
          cases hb : s.testBit i
          · rw [hb] at hbR hnext
            have hRS : R = s := by
              have := of_decide_eq_false hbR.symm
              omega
            subst hRS
            have HN := Lib.hid (show rowI pr q R (tabI pr q (R - 1)) (i + 1) = L from hnext)
            clear hbR hnext hb hRs
            have hne : (((R : Nat) : Int) != (R : Int)) = false := by simp
            go_wp2
            go_roundg (q - (i + 1))
            case measure => omega
            case rel => exact ⟨i + 1, by omega, by omega, by go_num, by rw [HN.out]; exact RT, BI⟩
          · rw [hb] at hbR hnext
            have hRS : R < s := of_decide_eq_true hbR.symm
            have HN := Lib.hid (show rowI pr q s (tabI pr q (s - 1)) (i + 1) = L.set s (gmx (L.getD s 0) (wrap64 (ahdN pr i R q + L.getD R 0))) from hnext)
            clear hbR hnext hb hRs
            have hne : (((R : Nat) : Int) != (s : Int)) = true := by rw [bne_iff_ne]; omega
            have hRZ : (R : Int) < (Z : Int) := by omega
            obtain ⟨y0, z0⟩ := Kd.R_celln 0 RT.out (s : Int) (by omega) hltz
            obtain ⟨y1, z1⟩ := Kd.R_celln 0 RT.out (R : Int) (by omega) hRZ
            rw [Int.toNat_natCast] at y0 z0 y1 z1
            have hx0 : rdOf 0 L (s : Int) = L.getD s 0 := rfl
            have hx1 : rdOf 0 L (R : Int) = L.getD R 0 := rfl
            rw [hx0] at y0
            rw [hx1] at y1
            clear hx0 hx1
            have RP := fun v => Kd.R_putn RT.out (s : Int) v
            rw [Int.toNat_natCast] at RP
            have HRP := Aside0.mk RP
            clear RP
            generalize L.getD s 0 = xs at y0 HN
            generalize L.getD R 0 = xr at y1 HN
            have hs0 : decide ((0 : Int) ≤ (s : Int)) = true := decide_eq_true (by omega)
            have hs1 : decide ((s : Int) < (Z : Int)) = true := decide_eq_true hltz
            have hR0 : decide ((0 : Int) ≤ (R : Int)) = true := decide_eq_true (by omega)
            have hR1 : decide ((R : Int) < (Z : Int)) = true := decide_eq_true hRZ
            go_wp2
            refine start_ (n := 18) (S := fun w' => w'.cell? ⟨g, s, none⟩ = some (.int .i64 xs) ∧ w'.cell? ⟨g, R, none⟩ = some (.int .i64 xr)) (ds := [17]) #[false, false, false, false, false, false, false, false, false, false, false, false, false, false, false, false, false, false] (by kernel_rfl) rfl rfl ⟨(show wr.drew.cell? ⟨g, s, none⟩ = some (.int .i64 xs) from y0), (show wr.drew.cell? ⟨g, R, none⟩ = some (.int .i64 xr) from y1)⟩ (fun hHeld => ?_)
            refine pure_ (i := 0) (N := some 41) (v := ?_) (a' := ?_) #[true, false, false, false, false, false, false, false, false, false, false, false, false, false, false, false, false, false] rfl rfl (by kernel_rfl) (fun _ _ _ h => h) (Or.inl ⟨by rfl, ?_⟩) ?_ ?_
            rotate_left
            · intro w'
              go_simp
              with_reducible rfl
            rotate_left
            · simp only [Act.put, List.setIfInBounds_toArray, List.set_cons_zero, List.set_cons_succ, i64_w, i32_w]
              rfl
            refine pure_ (i := 1) (N := some 42) (v := ?_) (a' := ?_) #[true, true, false, false, false, false, false, false, false, false, false, false, false, false, false, false, false, false] rfl rfl (by kernel_rfl) (fun _ _ _ h => h) (Or.inl ⟨by rfl, ?_⟩) ?_ ?_
            rotate_left
            · intro w'
              go_simp
              with_reducible rfl
            rotate_left
            · simp only [Act.put, List.setIfInBounds_toArray, List.set_cons_zero, List.set_cons_succ, i64_w, i32_w]
              rfl
            refine pure_ (i := 2) (N := some 43) (v := ?_) (a' := ?_) #[true, true, true, false, false, false, false, false, false, false, false, false, false, false, false, false, false, false] rfl rfl (by kernel_rfl) (fun _ _ _ h => h) (Or.inl ⟨by rfl, ?_⟩) ?_ ?_
            rotate_left
            · intro w'
              go_simp
              with_reducible rfl
            rotate_left
            · simp only [Act.put, List.setIfInBounds_toArray, List.set_cons_zero, List.set_cons_succ, i64_w, i32_w]
              rfl
            refine pure_ (i := 3) (N := some 44) (v := ?_) (a' := ?_) #[true, true, true, true, false, false, false, false, false, false, false, false, false, false, false, false, false, false] rfl rfl (by kernel_rfl) (fun _ _ _ h => h) (Or.inl ⟨by rfl, ?_⟩) ?_ ?_
            rotate_left
            · intro w'
              go_simp
              with_reducible rfl
            rotate_left
            · simp only [Act.put, List.setIfInBounds_toArray, List.set_cons_zero, List.set_cons_succ, i64_w, i32_w]
              rfl
            refine pure_ (i := 4) (N := some 45) (v := ?_) (a' := ?_) #[true, true, true, true, true, false, false, false, false, false, false, false, false, false, false, false, false, false] rfl rfl (by kernel_rfl) (fun _ _ _ h => h) (Or.inl ⟨by rfl, ?_⟩) ?_ ?_
            rotate_left
            · intro w'
              go_simp
              with_reducible rfl
            rotate_left
            · simp only [Act.put, List.setIfInBounds_toArray, List.set_cons_zero, List.set_cons_succ, i64_w, i32_w]
              rfl
            refine pure_ (i := 6) (N := some 47) (v := ?_) (a' := ?_) #[true, true, true, true, true, false, true, false, false, false, false, false, false, false, false, false, false, false] rfl rfl (by kernel_rfl) (fun _ _ _ h => h) (Or.inl ⟨by rfl, ?_⟩) ?_ ?_
            rotate_left
            · intro w'
              go_simp
              with_reducible rfl
            rotate_left
            · simp only [Act.put, List.setIfInBounds_toArray, List.set_cons_zero, List.set_cons_succ, i64_w, i32_w]
              rfl
            refine pure_ (i := 7) (N := some 48) (v := ?_) (a' := ?_) #[true, true, true, true, true, false, true, true, false, false, false, false, false, false, false, false, false, false] rfl rfl (by kernel_rfl) (fun _ _ _ h => h) (Or.inl ⟨by rfl, ?_⟩) ?_ ?_
            rotate_left
            · intro w'
              go_simp
              with_reducible rfl
            rotate_left
            · simp only [Act.put, List.setIfInBounds_toArray, List.set_cons_zero, List.set_cons_succ, i64_w, i32_w]
              rfl
            refine pure_ (i := 8) (N := some 49) (v := ?_) (a' := ?_) #[true, true, true, true, true, false, true, true, true, false, false, false, false, false, false, false, false, false] rfl rfl (by kernel_rfl) (fun _ _ _ h => h) (Or.inl ⟨by rfl, ?_⟩) ?_ ?_
            rotate_left
            · intro w'
              go_simp
              with_reducible rfl
            rotate_left
            · simp only [Act.put, List.setIfInBounds_toArray, List.set_cons_zero, List.set_cons_succ, i64_w, i32_w]
              rfl
            refine pure_ (i := 10) (N := some 51) (v := ?_) (a' := ?_) #[true, true, true, true, true, false, true, true, true, false, true, false, false, false, false, false, false, false] rfl rfl (by kernel_rfl) (fun _ _ _ h => h) (Or.inl ⟨by rfl, ?_⟩) ?_ ?_
            rotate_left
            · intro w'
              go_simp
              with_reducible rfl
            rotate_left
            · simp only [Act.put, List.setIfInBounds_toArray, List.set_cons_zero, List.set_cons_succ, i64_w, i32_w]
              rfl
            refine pure_ (i := 11) (N := some 52) (v := ?_) (a' := ?_) #[true, true, true, true, true, false, true, true, true, false, true, true, false, false, false, false, false, false] rfl rfl (by kernel_rfl) (fun _ _ _ h => h) (Or.inl ⟨by rfl, ?_⟩) ?_ ?_
            rotate_left
            · intro w'
              go_simp
              with_reducible rfl
            rotate_left
            · simp only [Act.put, List.setIfInBounds_toArray, List.set_cons_zero, List.set_cons_succ, i64_w, i32_w]
              rfl
            refine pure_ (i := 12) (N := some 53) (v := ?_) (a' := ?_) #[true, true, true, true, true, false, true, true, true, false, true, true, true, false, false, false, false, false] rfl rfl (by kernel_rfl) (fun _ _ _ h => h) (Or.inl ⟨by rfl, ?_⟩) ?_ ?_
            rotate_left
            · intro w'
              go_simp
              with_reducible rfl
            rotate_left
            · simp only [Act.put, List.setIfInBounds_toArray, List.set_cons_zero, List.set_cons_succ, i64_w, i32_w]
              rfl
            refine take_ (i := 5) (N := some 46) (v := ?_) (a' := ?_) #[true, true, true, true, true, true, true, true, true, false, true, true, true, false, false, false, false, false] rfl rfl (by kernel_rfl) (fun _ _ _ h => h) (Or.inl ⟨by rfl, ?_⟩) hHeld ?_ ?_
            rotate_left
            · rintro w' ⟨s0, s1⟩
              go_simp
              with_reducible rfl
            rotate_left
            · simp only [Act.put, List.setIfInBounds_toArray, List.set_cons_zero, List.set_cons_succ, i64_w, i32_w]
              rfl
            refine take_ (i := 13) (N := some 54) (v := ?_) (a' := ?_) #[true, true, true, true, true, true, true, true, true, false, true, true, true, true, false, false, false, false] rfl rfl (by kernel_rfl) (fun _ _ _ h => h) (Or.inl ⟨by rfl, ?_⟩) hHeld ?_ ?_
            rotate_left
            · rintro w' ⟨s0, s1⟩
              go_simp
              with_reducible rfl
            rotate_left
            · simp only [Act.put, List.setIfInBounds_toArray, List.set_cons_zero, List.set_cons_succ, i64_w, i32_w]
              rfl
            refine one_ (i := 9) (N := some 50) #[true, true, true, true, true, true, true, true, true, true, true, true, true, true, false, false, false, false] rfl rfl (by kernel_rfl) (by decide) (fun K hK => ?_)
            refine goesF_ Try.func60 (by kernel_rfl) rfl #[.int .i64 (i : Int), .int .i64 (R : Int)] (by rfl) rfl rfl rfl (by simp only [List.map_toArray, List.map_cons, List.map_nil]; rfl) ?_
            show Calls Try.prog 60 #[.int .i64 (i : Int), .int .i64 (R : Int), .pointer (some ⟨w.heap.size, 0, none⟩), .pointer (some ⟨w1.heap.size, 0, none⟩)] _ _
            with_reducible refine (G.Best.ahead i R q _ _ A19 c19 pr _ (pw_cell_below (below_drew BI.out) XH.out.1) (pw_cell_below (below_drew BI.out) XH.out.2.1) (Kd.C_below XH.out.2.2.1 (below_drew BI.out)) (Sq.row HSQ.out i hi) hi hq hr256).mono ?_
            rintro e w5 ⟨rfl, rfl⟩
            refine ⟨_, rfl, ?_⟩
            refine hK.out _ _ ⟨hHeld.1, hHeld.2⟩ (fun hHeld => ?_)
            clear hK K
            refine norm_ (a' := ?_) ?_ ?_
            rotate_left
            · show Act.put _ (some 50) _ = _
              simp only [Act.put, List.setIfInBounds_toArray, List.set_cons_zero, List.set_cons_succ, i64_w, i32_w]
              rfl
            refine pure_ (i := 14) (N := some 55) (v := ?_) (a' := ?_) #[true, true, true, true, true, true, true, true, true, true, true, true, true, true, true, false, false, false] rfl rfl (by kernel_rfl) (fun _ _ _ h => h) (Or.inl ⟨by rfl, ?_⟩) ?_ ?_
            rotate_left
            · intro w'
              go_simp
              with_reducible rfl
            rotate_left
            · simp only [Act.put, List.setIfInBounds_toArray, List.set_cons_zero, List.set_cons_succ, i64_w, i32_w]
              rfl
            refine pure_ (i := 15) (N := some 56) (v := ?_) (a' := ?_) #[true, true, true, true, true, true, true, true, true, true, true, true, true, true, true, true, false, false] rfl rfl (by kernel_rfl) (fun _ _ _ h => h) (Or.inl ⟨by rfl, ?_⟩) ?_ ?_
            rotate_left
            · intro w'
              go_simp
              with_reducible rfl
            rotate_left
            · simp only [Act.put, List.setIfInBounds_toArray, List.set_cons_zero, List.set_cons_succ, i64_w, i32_w]
              rfl
            refine pure_ (i := 16) (N := some 57) (v := ?_) (a' := ?_) #[true, true, true, true, true, true, true, true, true, true, true, true, true, true, true, true, true, false] rfl rfl (by kernel_rfl) (fun _ _ _ h => h) (Or.inl ⟨by rfl, ?_⟩) ?_ ?_
            rotate_left
            · intro w'
              go_simp
              with_reducible rfl
            rotate_left
            · simp only [Act.put, List.setIfInBounds_toArray, List.set_cons_zero, List.set_cons_succ, i64_w, i32_w]
              rfl
            refine last_ (i := 17) (N := none) #[true, true, true, true, true, true, true, true, true, true, true, true, true, true, true, true, true, true] rfl rfl (by kernel_rfl) (by decide) (fun K hK => ?_)
            refine skip_ (w1 := ?_) (by rfl) rfl ?_ ?_
            rotate_left
            · go_simp
              rfl
            refine hK.out _ _ ?_
            clear hK K
            refine done_ (by kernel_rfl) ?_

            go_wp2
            all_goals go_roundg (q - (i + 1))
            case measure => omega
            case rel => exact ⟨i + 1, by omega, by omega, by go_num, ⟨by rw [HN.out]; unfold gmx; first | (rw [if_pos (by assumption)]; exact Kd.R_drew (HRP.out _)) | (rw [if_neg (Int.not_lt.2 (by assumption))]; exact Kd.R_drew (HRP.out _))⟩, ⟨below_drew (BI.out.setCell hgb _)⟩⟩
            case measure => omega
            case rel => exact ⟨i + 1, by omega, by omega, by go_num, ⟨by rw [HN.out]; unfold gmx; first | (rw [if_pos (by assumption)]; exact Kd.R_drew (HRP.out _)) | (rw [if_neg (Int.not_lt.2 (by assumption))]; exact Kd.R_drew (HRP.out _))⟩, ⟨below_drew (BI.out.setCell hgb _)⟩⟩
        · have hi' : ¬ (i : Int) < (q : Int) := by omega
          obtain rfl : i = q := by omega
          go_wp2
          go_roundg (Z - (s + 1))
          case measure => omega
          case rel => exact ⟨s + 1, by omega, by omega, by omega, by go_num, ⟨by have e_ := tabI_succ pr i (s - 1); rw [show s - 1 + 1 = s by omega] at e_; rw [show s + 1 - 1 = s by omega, e_]; exact RT.out⟩, BI⟩
    · have hltz : ¬ (s : Int) < (Z : Int) := by omega
      obtain rfl : s = Z := by omega
      obtain ⟨T, hT⟩ : ∃ T, T = tabI pr q (s - 1) := ⟨_, rfl⟩
      rw [← hT] at R7
      have hh := HH.out
      unfold bestOI at hh
      rw [← HZ.out, ← hT] at hh
      obtain ⟨oz, ho, hoe⟩ := Option.map_eq_some_iff.1 hh
      obtain ⟨rfl, hr2⟩ := Prod.mk.inj hoe
      have HR2 := Lib.hid hr2
      have HO := Lib.hid ho
      clear hT hh hoe hr2 ho HH
      have RB := Aside0.mk (Kd.R_mono (ok' := fun k => k = g) (Kd.R_tight rfl R7.out) (fun k hk => by simpa [Value.ownBlock] using hk))
      clear R7
      go_wp2
      refine start_ (n := 6) (S := fun w' => w'.cell? ⟨w.heap.size, 0, none⟩ = some (.int .i64 q)) (ds := []) #[false, false, false, false, false, false] (by kernel_rfl) rfl rfl ((show wr.drew.cell? ⟨w.heap.size, 0, none⟩ = some (.int .i64 q) from X0)) (fun hHeld => ?_)
      refine take_ (i := 1) (N := some 60) (v := ?_) (a' := ?_) #[false, true, false, false, false, false] rfl rfl (by kernel_rfl) (fun _ _ _ h => h) (Or.inl ⟨by rfl, ?_⟩) hHeld ?_ ?_
      rotate_left
      · intro w' s0
        go_simp
        with_reducible rfl
      rotate_left
      · simp only [Act.put, List.setIfInBounds_toArray, List.set_cons_zero, List.set_cons_succ, i64_w, i32_w]
        rfl
      refine pure_ (i := 2) (N := some 61) (v := ?_) (a' := ?_) #[false, true, true, false, false, false] rfl rfl (by kernel_rfl) (fun _ _ _ h => h) (Or.inl ⟨by rfl, ?_⟩) ?_ ?_
      rotate_left
      · intro w'
        go_simp
        with_reducible rfl
      rotate_left
      · simp only [Act.put, List.setIfInBounds_toArray, List.set_cons_zero, List.set_cons_succ, i64_w, i32_w]
        rfl
      refine pure_ (i := 3) (N := some 62) (v := ?_) (a' := ?_) #[false, true, true, true, false, false] rfl rfl (by kernel_rfl) (fun _ _ _ h => h) (Or.inl ⟨by rfl, ?_⟩) ?_ ?_
      rotate_left
      · intro w'
        go_simp
        with_reducible rfl
      rotate_left
      · simp only [Act.put, List.setIfInBounds_toArray, List.set_cons_zero, List.set_cons_succ, i64_w, i32_w]
        rfl
      refine one_ (i := 0) (N := some 59) #[true, true, true, true, false, false] rfl rfl (by kernel_rfl) (by decide) (fun K hK => ?_)
      refine value_ (w1 := ?_) (v := ?_) (by rfl) rfl ?_ ?_
      rotate_left 2
      · go_simp
        constructor
        · rfl
        · rfl
      refine hK.out _ _ ((pw_cell_below (below_alloc (Below.refl _ _) _) hHeld)) (fun hHeld => ?_)
      clear hK K
      refine norm_ (a' := ?_) ?_ ?_
      rotate_left
      · show Act.put _ (some 59) _ = _
        simp only [Act.put, List.setIfInBounds_toArray, List.set_cons_zero, List.set_cons_succ, i64_w, i32_w]
        rfl
      refine pure_ (i := 4) (N := some 12) (v := ?_) (a' := ?_) #[true, true, true, true, true, false] rfl rfl (by kernel_rfl) (fun _ _ _ h => h) (Or.inl ⟨by rfl, ?_⟩) ?_ ?_
      rotate_left
      · intro w'
        go_simp
        with_reducible rfl
      rotate_left
      · simp only [Act.put, List.setIfInBounds_toArray, List.set_cons_zero, List.set_cons_succ, i64_w, i32_w]
        rfl
      refine pure_ (i := 5) (N := some 13) (v := ?_) (a' := ?_) #[true, true, true, true, true, true] rfl rfl (by kernel_rfl) (fun _ _ _ h => h) (Or.inl ⟨by rfl, ?_⟩) ?_ ?_
      rotate_left
      · intro w'
        go_simp
        with_reducible rfl
      rotate_left
      · simp only [Act.put, List.setIfInBounds_toArray, List.set_cons_zero, List.set_cons_succ, i64_w, i32_w]
        rfl
      refine done_ (by kernel_rfl) ?_

      have RO := Aside0.mk (show Kd.R (Kd.int .i64) 2 (wr.drew.alloc (.cells #[] 2)) W0.heap.size (fun k => k ≠ g) (.slice (some ⟨wr.heap.size, 0, none⟩) 0 0) [] from R_empty (Nat.le_trans (below_drew B7.out).size (Nat.le_refl _)) (by have := (Kd.R_bound RB.out).1 g rfl; have h2 := this.2.2.1; show wr.heap.size ≠ g; omega))
      have hw := wz s hZb.1 hZb.2
      rw [hw]
      have H8 := ordO_len HO.out
      have B7 : Aside0 (Below W0.heap.size W0 (wr.drew.alloc (.cells #[] 2))) := ⟨below_alloc (below_drew B7.out) _⟩
      have RB : Aside0 (Kd.R (Kd.int .i64) 2 (wr.drew.alloc (.cells #[] 2)) W0.heap.size (fun k => k = g) (.slice (some ⟨g, 0, none⟩) s cap) T) := ⟨Kd.R_alloc (Kd.R_drew RB.out) _⟩
      clear hHeld X0
      go_wp2
      go_loopg [12, 14] (s - 1) (fun gg v12 v14 wi => ∃ (se f : Nat) (l0 rest : List Int), se ≤ gg ∧ se ≤ s - 1 ∧ v14 = .int .i64 se ∧ ordO pr q T f se = some rest ∧ l0 ++ rest = oz ∧ Aside0 (Kd.R (Kd.int .i64) 2 wi W0.heap.size (fun k => k ≠ g) v12 l0) ∧ Aside0 (Kd.R (Kd.int .i64) 2 wi W0.heap.size (fun k => k = g) (.slice (some ⟨g, 0, none⟩) s cap) T) ∧ Aside0 (Below W0.heap.size W0 wi))
      case atStart => exact ⟨s - 1, 8, [], oz, by omega, by omega, rfl, HO.out, rfl, RO, RB, B7⟩
      case round =>
        clear RO RB B7
        obtain ⟨se, f, l0, rest, hsg, hss, rfl, ho, hl, RO, RB, BI⟩ := hrel
        have X0 := pw_cell_below BI.out XH.out.1
        by_cases h0 : 0 < se
        · have h0' : (0 : Int) < (se : Int) := by omega
          have hs : se < 256 := by omega
          obtain ⟨f', i0, l', hf, hi0, hc0, hcj, ho', hl'⟩ := ordO_step ho h0
          have HN := Lib.hid (And.intro ho' hl')
          have HC := Lib.hid (And.intro hc0 hcj)
          have HL := Lib.hid hl
          clear ho hc0 hcj ho' hl' hl hf
          obtain ⟨vo, rfl⟩ : ∃ vo, vo = u12 := ⟨_, rfl⟩
          go_wp2
          go_loopg [12, 14, 67] q (fun gg w12 w14 v67 wi => ∃ i : Nat, i ≤ i0 ∧ q - i ≤ gg ∧ w12 = vo ∧ w14 = .int .i64 se ∧ v67 = .int .i64 i ∧ Aside0 (Kd.R (Kd.int .i64) 2 wi W0.heap.size (fun k => k ≠ g) vo l0) ∧ Aside0 (Kd.R (Kd.int .i64) 2 wi W0.heap.size (fun k => k = g) (.slice (some ⟨g, 0, none⟩) s cap) T) ∧ Aside0 (Below W0.heap.size W0 wi))
          case atStart => exact ⟨0, Nat.zero_le _, by omega, rfl, rfl, rfl, RO, RB, BI⟩
          case round =>
            clear RO RB BI X0
            obtain ⟨i, hii, hgi, rfl, rfl, rfl, RO, RB, BI⟩ := hrel
            have X0 := pw_cell_below BI.out XH.out.1
            have hi : i < q := by omega
            have hi' : (i : Int) < (q : Int) := by omega
            obtain ⟨R, hR⟩ : ∃ R, R = rs se i := ⟨_, rfl⟩
            obtain ⟨⟨-, hand, -⟩, hRs, hbR⟩ := bits_at hs (show i < 8 by omega)
            rw [← hR] at hand hRs hbR
            obtain ⟨p2, hp2, hp2b⟩ := pow_i (show i < 8 by omega)
            rw [hp2] at hand
            have hr256 : R < 256 := by omega
            by_cases hii0 : i = i0
            · subst hii0
              have hc := HC.out.1
              unfold cnd at hc
              rw [Bool.and_eq_true] at hc
              obtain ⟨hb, heq⟩ := hc
              rw [← hR] at heq
              rw [hb] at hbR
              have hRS : R < se := of_decide_eq_true hbR.symm
              have HRR := Lib.hid hR
              clear hbR hb hRs hR
              have hne : (((R : Nat) : Int) != (se : Int)) = true := by rw [bne_iff_ne]; omega
              have hRZ : (R : Int) < (s : Int) := by omega
              have hSZ : (se : Int) < (s : Int) := by omega
              obtain ⟨y0, z0⟩ := Kd.R_celln 0 RB.out (se : Int) (by omega) hSZ
              obtain ⟨y1, z1⟩ := Kd.R_celln 0 RB.out (R : Int) (by omega) hRZ
              rw [Int.toNat_natCast] at y0 z0 y1 z1
              have hx0 : rdOf 0 T (se : Int) = T.getD se 0 := rfl
              have hx1 : rdOf 0 T (R : Int) = T.getD R 0 := rfl
              rw [hx0] at y0
              rw [hx1] at y1
              clear hx0 hx1
              generalize T.getD se 0 = xs at y0 heq
              generalize T.getD R 0 = xr at y1 heq
              have hs0 : decide ((0 : Int) ≤ (se : Int)) = true := decide_eq_true (by omega)
              have hs1 : decide ((se : Int) < (s : Int)) = true := decide_eq_true hSZ
              have hR0 : decide ((0 : Int) ≤ (R : Int)) = true := decide_eq_true (by omega)
              have hR1 : decide ((R : Int) < (s : Int)) = true := decide_eq_true hRZ
              go_wp2
              refine start_ (n := 19) (S := fun w' => w'.cell? ⟨g, se, none⟩ = some (.int .i64 xs) ∧ w'.cell? ⟨g, R, none⟩ = some (.int .i64 xr)) (ds := []) #[false, false, false, false, false, false, false, false, false, false, false, false, false, false, false, false, false, false, false] (by kernel_rfl) rfl rfl ⟨(show wr.drew.cell? ⟨g, se, none⟩ = some (.int .i64 xs) from y0), (show wr.drew.cell? ⟨g, R, none⟩ = some (.int .i64 xr) from y1)⟩ (fun hHeld => ?_)
              refine pure_ (i := 0) (N := some 74) (v := ?_) (a' := ?_) #[true, false, false, false, false, false, false, false, false, false, false, false, false, false, false, false, false, false, false] rfl rfl (by kernel_rfl) (fun _ _ _ h => h) (Or.inl ⟨by rfl, ?_⟩) ?_ ?_
              rotate_left
              · intro w'
                go_simp
                with_reducible rfl
              rotate_left
              · simp only [Act.put, List.setIfInBounds_toArray, List.set_cons_zero, List.set_cons_succ, i64_w, i32_w]
                rfl
              refine pure_ (i := 1) (N := some 75) (v := ?_) (a' := ?_) #[true, true, false, false, false, false, false, false, false, false, false, false, false, false, false, false, false, false, false] rfl rfl (by kernel_rfl) (fun _ _ _ h => h) (Or.inl ⟨by rfl, ?_⟩) ?_ ?_
              rotate_left
              · intro w'
                go_simp
                with_reducible rfl
              rotate_left
              · simp only [Act.put, List.setIfInBounds_toArray, List.set_cons_zero, List.set_cons_succ, i64_w, i32_w]
                rfl
              refine pure_ (i := 2) (N := some 76) (v := ?_) (a' := ?_) #[true, true, true, false, false, false, false, false, false, false, false, false, false, false, false, false, false, false, false] rfl rfl (by kernel_rfl) (fun _ _ _ h => h) (Or.inl ⟨by rfl, ?_⟩) ?_ ?_
              rotate_left
              · intro w'
                go_simp
                with_reducible rfl
              rotate_left
              · simp only [Act.put, List.setIfInBounds_toArray, List.set_cons_zero, List.set_cons_succ, i64_w, i32_w]
                rfl
              refine pure_ (i := 3) (N := some 77) (v := ?_) (a' := ?_) #[true, true, true, true, false, false, false, false, false, false, false, false, false, false, false, false, false, false, false] rfl rfl (by kernel_rfl) (fun _ _ _ h => h) (Or.inl ⟨by rfl, ?_⟩) ?_ ?_
              rotate_left
              · intro w'
                go_simp
                with_reducible rfl
              rotate_left
              · simp only [Act.put, List.setIfInBounds_toArray, List.set_cons_zero, List.set_cons_succ, i64_w, i32_w]
                rfl
              refine pure_ (i := 4) (N := some 78) (v := ?_) (a' := ?_) #[true, true, true, true, true, false, false, false, false, false, false, false, false, false, false, false, false, false, false] rfl rfl (by kernel_rfl) (fun _ _ _ h => h) (Or.inl ⟨by rfl, ?_⟩) ?_ ?_
              rotate_left
              · intro w'
                go_simp
                with_reducible rfl
              rotate_left
              · simp only [Act.put, List.setIfInBounds_toArray, List.set_cons_zero, List.set_cons_succ, i64_w, i32_w]
                rfl
              refine pure_ (i := 5) (N := some 79) (v := ?_) (a' := ?_) #[true, true, true, true, true, true, false, false, false, false, false, false, false, false, false, false, false, false, false] rfl rfl (by kernel_rfl) (fun _ _ _ h => h) (Or.inl ⟨by rfl, ?_⟩) ?_ ?_
              rotate_left
              · intro w'
                go_simp
                with_reducible rfl
              rotate_left
              · simp only [Act.put, List.setIfInBounds_toArray, List.set_cons_zero, List.set_cons_succ, i64_w, i32_w]
                rfl
              refine pure_ (i := 6) (N := some 80) (v := ?_) (a' := ?_) #[true, true, true, true, true, true, true, false, false, false, false, false, false, false, false, false, false, false, false] rfl rfl (by kernel_rfl) (fun _ _ _ h => h) (Or.inl ⟨by rfl, ?_⟩) ?_ ?_
              rotate_left
              · intro w'
                go_simp
                with_reducible rfl
              rotate_left
              · simp only [Act.put, List.setIfInBounds_toArray, List.set_cons_zero, List.set_cons_succ, i64_w, i32_w]
                rfl
              refine pure_ (i := 8) (N := some 82) (v := ?_) (a' := ?_) #[true, true, true, true, true, true, true, false, true, false, false, false, false, false, false, false, false, false, false] rfl rfl (by kernel_rfl) (fun _ _ _ h => h) (Or.inl ⟨by rfl, ?_⟩) ?_ ?_
              rotate_left
              · intro w'
                go_simp
                with_reducible rfl
              rotate_left
              · simp only [Act.put, List.setIfInBounds_toArray, List.set_cons_zero, List.set_cons_succ, i64_w, i32_w]
                rfl
              refine pure_ (i := 9) (N := some 83) (v := ?_) (a' := ?_) #[true, true, true, true, true, true, true, false, true, true, false, false, false, false, false, false, false, false, false] rfl rfl (by kernel_rfl) (fun _ _ _ h => h) (Or.inl ⟨by rfl, ?_⟩) ?_ ?_
              rotate_left
              · intro w'
                go_simp
                with_reducible rfl
              rotate_left
              · simp only [Act.put, List.setIfInBounds_toArray, List.set_cons_zero, List.set_cons_succ, i64_w, i32_w]
                rfl
              refine pure_ (i := 10) (N := some 84) (v := ?_) (a' := ?_) #[true, true, true, true, true, true, true, false, true, true, true, false, false, false, false, false, false, false, false] rfl rfl (by kernel_rfl) (fun _ _ _ h => h) (Or.inl ⟨by rfl, ?_⟩) ?_ ?_
              rotate_left
              · intro w'
                go_simp
                with_reducible rfl
              rotate_left
              · simp only [Act.put, List.setIfInBounds_toArray, List.set_cons_zero, List.set_cons_succ, i64_w, i32_w]
                rfl
              refine pure_ (i := 13) (N := some 87) (v := ?_) (a' := ?_) #[true, true, true, true, true, true, true, false, true, true, true, false, false, true, false, false, false, false, false] rfl rfl (by kernel_rfl) (fun _ _ _ h => h) (Or.inl ⟨by rfl, ?_⟩) ?_ ?_
              rotate_left
              · intro w'
                go_simp
                with_reducible rfl
              rotate_left
              · simp only [Act.put, List.setIfInBounds_toArray, List.set_cons_zero, List.set_cons_succ, i64_w, i32_w]
                rfl
              refine pure_ (i := 14) (N := some 88) (v := ?_) (a' := ?_) #[true, true, true, true, true, true, true, false, true, true, true, false, false, true, true, false, false, false, false] rfl rfl (by kernel_rfl) (fun _ _ _ h => h) (Or.inl ⟨by rfl, ?_⟩) ?_ ?_
              rotate_left
              · intro w'
                go_simp
                with_reducible rfl
              rotate_left
              · simp only [Act.put, List.setIfInBounds_toArray, List.set_cons_zero, List.set_cons_succ, i64_w, i32_w]
                rfl
              refine pure_ (i := 15) (N := some 89) (v := ?_) (a' := ?_) #[true, true, true, true, true, true, true, false, true, true, true, false, false, true, true, true, false, false, false] rfl rfl (by kernel_rfl) (fun _ _ _ h => h) (Or.inl ⟨by rfl, ?_⟩) ?_ ?_
              rotate_left
              · intro w'
                go_simp
                with_reducible rfl
              rotate_left
              · simp only [Act.put, List.setIfInBounds_toArray, List.set_cons_zero, List.set_cons_succ, i64_w, i32_w]
                rfl
              refine take_ (i := 11) (N := some 85) (v := ?_) (a' := ?_) #[true, true, true, true, true, true, true, false, true, true, true, true, false, true, true, true, false, false, false] rfl rfl (by kernel_rfl) (fun _ _ _ h => h) (Or.inl ⟨by rfl, ?_⟩) hHeld ?_ ?_
              rotate_left
              · rintro w' ⟨s0, s1⟩
                go_simp
                with_reducible rfl
              rotate_left
              · simp only [Act.put, List.setIfInBounds_toArray, List.set_cons_zero, List.set_cons_succ, i64_w, i32_w]
                rfl
              refine take_ (i := 16) (N := some 90) (v := ?_) (a' := ?_) #[true, true, true, true, true, true, true, false, true, true, true, true, false, true, true, true, true, false, false] rfl rfl (by kernel_rfl) (fun _ _ _ h => h) (Or.inl ⟨by rfl, ?_⟩) hHeld ?_ ?_
              rotate_left
              · rintro w' ⟨s0, s1⟩
                go_simp
                with_reducible rfl
              rotate_left
              · simp only [Act.put, List.setIfInBounds_toArray, List.set_cons_zero, List.set_cons_succ, i64_w, i32_w]
                rfl
              refine one_ (i := 7) (N := some 81) #[true, true, true, true, true, true, true, true, true, true, true, true, false, true, true, true, true, false, false] rfl rfl (by kernel_rfl) (by decide) (fun K hK => ?_)
              refine goesF_ Try.func60 (by kernel_rfl) rfl #[.int .i64 (i : Int), .int .i64 (R : Int)] (by rfl) rfl rfl rfl (by simp only [List.map_toArray, List.map_cons, List.map_nil]; rfl) ?_
              show Calls Try.prog 60 #[.int .i64 (i : Int), .int .i64 (R : Int), .pointer (some ⟨w.heap.size, 0, none⟩), .pointer (some ⟨w1.heap.size, 0, none⟩)] _ _
              with_reducible refine (G.Best.ahead i R q _ _ A19 c19 pr _ (pw_cell_below (below_drew BI.out) XH.out.1) (pw_cell_below (below_drew BI.out) XH.out.2.1) (Kd.C_below XH.out.2.2.1 (below_drew BI.out)) (Sq.row HSQ.out i hi) hi hq hr256).mono ?_
              rintro e w5 ⟨rfl, rfl⟩
              refine ⟨_, rfl, ?_⟩
              refine hK.out _ _ ⟨hHeld.1, hHeld.2⟩ (fun hHeld => ?_)
              clear hK K
              refine norm_ (a' := ?_) ?_ ?_
              rotate_left
              · show Act.put _ (some 81) _ = _
                simp only [Act.put, List.setIfInBounds_toArray, List.set_cons_zero, List.set_cons_succ, i64_w, i32_w]
                rfl
              refine pure_ (i := 12) (N := some 86) (v := ?_) (a' := ?_) #[true, true, true, true, true, true, true, true, true, true, true, true, true, true, true, true, true, false, false] rfl rfl (by kernel_rfl) (fun _ _ _ h => h) (Or.inl ⟨by rfl, ?_⟩) ?_ ?_
              rotate_left
              · intro w'
                go_simp
                with_reducible rfl
              rotate_left
              · simp only [Act.put, List.setIfInBounds_toArray, List.set_cons_zero, List.set_cons_succ, i64_w, i32_w]
                rfl
              refine pure_ (i := 17) (N := some 91) (v := ?_) (a' := ?_) #[true, true, true, true, true, true, true, true, true, true, true, true, true, true, true, true, true, true, false] rfl rfl (by kernel_rfl) (fun _ _ _ h => h) (Or.inl ⟨by rfl, ?_⟩) ?_ ?_
              rotate_left
              · intro w'
                go_simp
                with_reducible rfl
              rotate_left
              · simp only [Act.put, List.setIfInBounds_toArray, List.set_cons_zero, List.set_cons_succ, i64_w, i32_w]
                rfl
              refine pure_ (i := 18) (N := some 92) (v := ?_) (a' := ?_) #[true, true, true, true, true, true, true, true, true, true, true, true, true, true, true, true, true, true, true] rfl rfl (by kernel_rfl) (fun _ _ _ h => h) (Or.inl ⟨by rfl, ?_⟩) ?_ ?_
              rotate_left
              · intro w'
                go_simp
                with_reducible rfl
              rotate_left
              · simp only [Act.put, List.setIfInBounds_toArray, List.set_cons_zero, List.set_cons_succ, i64_w, i32_w]
                rfl
              refine done_ (by kernel_rfl) ?_

              have hl0 : l0.length ≤ 8 := by
                have := congrArg List.length HL.out
                rw [List.length_append] at this
                omega
              have hgw : g < wr.heap.size := ((Kd.R_bound RB.out).1 g rfl).2.2.1
              have hvo : ∀ k, k = g → some k ≠ (u12 : Value).ownBlock := fun k hk e => RO.out.1 k e.symm hk
              clear y0 y1 z0 z1 hs0 hs1 hR0 hR1 heq
              go_wp2_with (first | ((with_reducible refine gate_builtin (b := .append) (xs := #[.tmp 93, .tmp 95]) rfl ?_); at_builtin; go_loud (refine Kd.R_append (Kd.int .i64) (w0 := W0) (W := wr.drew) W0.heap.size rfl (.tmp 93) (.tmp 95) 24 2 (.int .i64 0) 8 rfl Try.underlying24 info2 rfl (by decide) (by omega) u12 l0 (i : Int) [.int .i64 (i : Int)] (fun k => k ≠ g) (fun _ => False) rfl rfl ?aP (fun _ hk => hk.elim) ?aF ?aO ?aB ?aS ?aL ?_; (case aP => exact rfl); (case aB => exact below_drew BI.out); (case aF => exact fun k hk e => absurd (show wr.heap.size ≤ k from hk) (by omega)); (case aO => exact Kd.R_drew RO.out); (case aS => exact (below_drew BI.out).size); (case aL => omega); intro v96 w5 ho hb hg hat; have RO2 := Aside0.mk ho; have B2 := Aside0.mk hb; have RB2 := Aside0.mk (Kd.R_grown (Kd.R_drew RB.out) hg hvo); clear ho hb hg hat RO RB BI)))
              go_roundg R
              case measure => omega
              case rel => exact ⟨R, f', l0 ++ [(i : Int)], l', Nat.le_refl _, by omega, rfl, by rw [HRR.out]; exact HN.out.1, by rw [List.append_assoc, List.singleton_append, ← HN.out.2]; exact HL.out, RO2, RB2, B2⟩
            · have hc := HC.out.2 i (by omega)
              unfold cnd at hc
              rw [← hR] at hc
              have HRR := Lib.hid hR
              clear hR
              cases hb : se.testBit i
              · rw [hb] at hbR hc
                have hRS : R = se := by
                  have := of_decide_eq_false hbR.symm
                  omega
                have hne : (((R : Nat) : Int) != (se : Int)) = false := by rw [hRS]; simp
                clear hbR hb hRs hc
                go_wp2
                refine start_ (n := 19) (S := fun w' => True) (ds := []) #[false, false, false, false, false, false, false, false, false, false, false, false, false, false, false, false, false, false, false] (by kernel_rfl) rfl rfl trivial (fun hHeld => ?_)
                refine pure_ (i := 0) (N := some 74) (v := ?_) (a' := ?_) #[true, false, false, false, false, false, false, false, false, false, false, false, false, false, false, false, false, false, false] rfl rfl (by kernel_rfl) (fun _ _ _ h => h) (Or.inl ⟨by rfl, ?_⟩) ?_ ?_
                rotate_left
                · intro w'
                  go_simp
                  with_reducible rfl
                rotate_left
                · simp only [Act.put, List.setIfInBounds_toArray, List.set_cons_zero, List.set_cons_succ, i64_w, i32_w]
                  rfl
                refine pure_ (i := 1) (N := some 75) (v := ?_) (a' := ?_) #[true, true, false, false, false, false, false, false, false, false, false, false, false, false, false, false, false, false, false] rfl rfl (by kernel_rfl) (fun _ _ _ h => h) (Or.inl ⟨by rfl, ?_⟩) ?_ ?_
                rotate_left
                · intro w'
                  go_simp
                  with_reducible rfl
                rotate_left
                · simp only [Act.put, List.setIfInBounds_toArray, List.set_cons_zero, List.set_cons_succ, i64_w, i32_w]
                  rfl
                refine pure_ (i := 2) (N := some 76) (v := ?_) (a' := ?_) #[true, true, true, false, false, false, false, false, false, false, false, false, false, false, false, false, false, false, false] rfl rfl (by kernel_rfl) (fun _ _ _ h => h) (Or.inl ⟨by rfl, ?_⟩) ?_ ?_
                rotate_left
                · intro w'
                  go_simp
                  with_reducible rfl
                rotate_left
                · simp only [Act.put, List.setIfInBounds_toArray, List.set_cons_zero, List.set_cons_succ, i64_w, i32_w]
                  rfl
                refine pure_ (i := 3) (N := some 77) (v := ?_) (a' := ?_) #[true, true, true, true, false, false, false, false, false, false, false, false, false, false, false, false, false, false, false] rfl rfl (by kernel_rfl) (fun _ _ _ h => h) (Or.inl ⟨by rfl, ?_⟩) ?_ ?_
                rotate_left
                · intro w'
                  go_simp
                  with_reducible rfl
                rotate_left
                · simp only [Act.put, List.setIfInBounds_toArray, List.set_cons_zero, List.set_cons_succ, i64_w, i32_w]
                  rfl
                refine pure_ (i := 4) (N := some 78) (v := undef) (a' := ?_) #[true, true, true, true, true, false, false, false, false, false, false, false, false, false, false, false, false, false, false] rfl rfl (by kernel_rfl) (fun _ _ _ h => h) (Or.inr ⟨by rfl, rfl⟩) ?_ ?_
                rotate_left
                · simp only [Act.put, List.setIfInBounds_toArray, List.set_cons_zero, List.set_cons_succ, i64_w, i32_w]
                  rfl
                refine pure_ (i := 5) (N := some 79) (v := undef) (a' := ?_) #[true, true, true, true, true, true, false, false, false, false, false, false, false, false, false, false, false, false, false] rfl rfl (by kernel_rfl) (fun _ _ _ h => h) (Or.inr ⟨by rfl, rfl⟩) ?_ ?_
                rotate_left
                · simp only [Act.put, List.setIfInBounds_toArray, List.set_cons_zero, List.set_cons_succ, i64_w, i32_w]
                  rfl
                refine pure_ (i := 6) (N := some 80) (v := undef) (a' := ?_) #[true, true, true, true, true, true, true, false, false, false, false, false, false, false, false, false, false, false, false] rfl rfl (by kernel_rfl) (fun _ _ _ h => h) (Or.inr ⟨by rfl, rfl⟩) ?_ ?_
                rotate_left
                · simp only [Act.put, List.setIfInBounds_toArray, List.set_cons_zero, List.set_cons_succ, i64_w, i32_w]
                  rfl
                refine pure_ (i := 7) (N := some 81) (v := undef) (a' := ?_) #[true, true, true, true, true, true, true, true, false, false, false, false, false, false, false, false, false, false, false] rfl rfl (by kernel_rfl) (fun _ _ _ h => h) (Or.inr ⟨by rfl, rfl⟩) ?_ ?_
                rotate_left
                · simp only [Act.put, List.setIfInBounds_toArray, List.set_cons_zero, List.set_cons_succ, i64_w, i32_w]
                  rfl
                refine pure_ (i := 8) (N := some 82) (v := undef) (a' := ?_) #[true, true, true, true, true, true, true, true, true, false, false, false, false, false, false, false, false, false, false] rfl rfl (by kernel_rfl) (fun _ _ _ h => h) (Or.inr ⟨by rfl, rfl⟩) ?_ ?_
                rotate_left
                · simp only [Act.put, List.setIfInBounds_toArray, List.set_cons_zero, List.set_cons_succ, i64_w, i32_w]
                  rfl
                refine pure_ (i := 9) (N := some 83) (v := undef) (a' := ?_) #[true, true, true, true, true, true, true, true, true, true, false, false, false, false, false, false, false, false, false] rfl rfl (by kernel_rfl) (fun _ _ _ h => h) (Or.inr ⟨by rfl, rfl⟩) ?_ ?_
                rotate_left
                · simp only [Act.put, List.setIfInBounds_toArray, List.set_cons_zero, List.set_cons_succ, i64_w, i32_w]
                  rfl
                refine pure_ (i := 10) (N := some 84) (v := undef) (a' := ?_) #[true, true, true, true, true, true, true, true, true, true, true, false, false, false, false, false, false, false, false] rfl rfl (by kernel_rfl) (fun _ _ _ h => h) (Or.inr ⟨by rfl, rfl⟩) ?_ ?_
                rotate_left
                · simp only [Act.put, List.setIfInBounds_toArray, List.set_cons_zero, List.set_cons_succ, i64_w, i32_w]
                  rfl
                refine pure_ (i := 11) (N := some 85) (v := undef) (a' := ?_) #[true, true, true, true, true, true, true, true, true, true, true, true, false, false, false, false, false, false, false] rfl rfl (by kernel_rfl) (fun _ _ _ h => h) (Or.inr ⟨by rfl, rfl⟩) ?_ ?_
                rotate_left
                · simp only [Act.put, List.setIfInBounds_toArray, List.set_cons_zero, List.set_cons_succ, i64_w, i32_w]
                  rfl
                refine pure_ (i := 12) (N := some 86) (v := undef) (a' := ?_) #[true, true, true, true, true, true, true, true, true, true, true, true, true, false, false, false, false, false, false] rfl rfl (by kernel_rfl) (fun _ _ _ h => h) (Or.inr ⟨by rfl, rfl⟩) ?_ ?_
                rotate_left
                · simp only [Act.put, List.setIfInBounds_toArray, List.set_cons_zero, List.set_cons_succ, i64_w, i32_w]
                  rfl
                refine pure_ (i := 13) (N := some 87) (v := undef) (a' := ?_) #[true, true, true, true, true, true, true, true, true, true, true, true, true, true, false, false, false, false, false] rfl rfl (by kernel_rfl) (fun _ _ _ h => h) (Or.inr ⟨by rfl, rfl⟩) ?_ ?_
                rotate_left
                · simp only [Act.put, List.setIfInBounds_toArray, List.set_cons_zero, List.set_cons_succ, i64_w, i32_w]
                  rfl
                refine pure_ (i := 14) (N := some 88) (v := undef) (a' := ?_) #[true, true, true, true, true, true, true, true, true, true, true, true, true, true, true, false, false, false, false] rfl rfl (by kernel_rfl) (fun _ _ _ h => h) (Or.inr ⟨by rfl, rfl⟩) ?_ ?_
                rotate_left
                · simp only [Act.put, List.setIfInBounds_toArray, List.set_cons_zero, List.set_cons_succ, i64_w, i32_w]
                  rfl
                refine pure_ (i := 15) (N := some 89) (v := undef) (a' := ?_) #[true, true, true, true, true, true, true, true, true, true, true, true, true, true, true, true, false, false, false] rfl rfl (by kernel_rfl) (fun _ _ _ h => h) (Or.inr ⟨by rfl, rfl⟩) ?_ ?_
                rotate_left
                · simp only [Act.put, List.setIfInBounds_toArray, List.set_cons_zero, List.set_cons_succ, i64_w, i32_w]
                  rfl
                refine pure_ (i := 16) (N := some 90) (v := undef) (a' := ?_) #[true, true, true, true, true, true, true, true, true, true, true, true, true, true, true, true, true, false, false] rfl rfl (by kernel_rfl) (fun _ _ _ h => h) (Or.inr ⟨by rfl, rfl⟩) ?_ ?_
                rotate_left
                · simp only [Act.put, List.setIfInBounds_toArray, List.set_cons_zero, List.set_cons_succ, i64_w, i32_w]
                  rfl
                refine pure_ (i := 17) (N := some 91) (v := undef) (a' := ?_) #[true, true, true, true, true, true, true, true, true, true, true, true, true, true, true, true, true, true, false] rfl rfl (by kernel_rfl) (fun _ _ _ h => h) (Or.inr ⟨by rfl, rfl⟩) ?_ ?_
                rotate_left
                · simp only [Act.put, List.setIfInBounds_toArray, List.set_cons_zero, List.set_cons_succ, i64_w, i32_w]
                  rfl
                refine pure_ (i := 18) (N := some 92) (v := ?_) (a' := ?_) #[true, true, true, true, true, true, true, true, true, true, true, true, true, true, true, true, true, true, true] rfl rfl (by kernel_rfl) (fun _ _ _ h => h) (Or.inl ⟨by rfl, ?_⟩) ?_ ?_
                rotate_left
                · intro w'
                  go_simp
                  with_reducible rfl
                rotate_left
                · simp only [Act.put, List.setIfInBounds_toArray, List.set_cons_zero, List.set_cons_succ, i64_w, i32_w]
                  rfl
                refine done_ (by kernel_rfl) ?_

                go_wp2
                go_roundg (q - (i + 1))
                case measure => omega
                case rel => exact ⟨i + 1, by omega, by omega, rfl, rfl, by go_num, ⟨Kd.R_drew RO.out⟩, ⟨Kd.R_drew RB.out⟩, ⟨below_drew BI.out⟩⟩
              · rw [hb, Bool.true_and] at hc
                rw [hb] at hbR
                have hRS : R < se := of_decide_eq_true hbR.symm
                have heq := hc
                clear hbR hb hRs hc
                have hne : (((R : Nat) : Int) != (se : Int)) = true := by rw [bne_iff_ne]; omega
                have hRZ : (R : Int) < (s : Int) := by omega
                have hSZ : (se : Int) < (s : Int) := by omega
                obtain ⟨y0, z0⟩ := Kd.R_celln 0 RB.out (se : Int) (by omega) hSZ
                obtain ⟨y1, z1⟩ := Kd.R_celln 0 RB.out (R : Int) (by omega) hRZ
                rw [Int.toNat_natCast] at y0 z0 y1 z1
                have hx0 : rdOf 0 T (se : Int) = T.getD se 0 := rfl
                have hx1 : rdOf 0 T (R : Int) = T.getD R 0 := rfl
                rw [hx0] at y0
                rw [hx1] at y1
                clear hx0 hx1
                generalize T.getD se 0 = xs at y0 heq
                generalize T.getD R 0 = xr at y1 heq
                have hs0 : decide ((0 : Int) ≤ (se : Int)) = true := decide_eq_true (by omega)
                have hs1 : decide ((se : Int) < (s : Int)) = true := decide_eq_true hSZ
                have hR0 : decide ((0 : Int) ≤ (R : Int)) = true := decide_eq_true (by omega)
                have hR1 : decide ((R : Int) < (s : Int)) = true := decide_eq_true hRZ
                go_wp2
                refine start_ (n := 19) (S := fun w' => w'.cell? ⟨g, se, none⟩ = some (.int .i64 xs) ∧ w'.cell? ⟨g, R, none⟩ = some (.int .i64 xr)) (ds := []) #[false, false, false, false, false, false, false, false, false, false, false, false, false, false, false, false, false, false, false] (by kernel_rfl) rfl rfl ⟨(show wr.drew.cell? ⟨g, se, none⟩ = some (.int .i64 xs) from y0), (show wr.drew.cell? ⟨g, R, none⟩ = some (.int .i64 xr) from y1)⟩ (fun hHeld => ?_)
                refine pure_ (i := 0) (N := some 74) (v := ?_) (a' := ?_) #[true, false, false, false, false, false, false, false, false, false, false, false, false, false, false, false, false, false, false] rfl rfl (by kernel_rfl) (fun _ _ _ h => h) (Or.inl ⟨by rfl, ?_⟩) ?_ ?_
                rotate_left
                · intro w'
                  go_simp
                  with_reducible rfl
                rotate_left
                · simp only [Act.put, List.setIfInBounds_toArray, List.set_cons_zero, List.set_cons_succ, i64_w, i32_w]
                  rfl
                refine pure_ (i := 1) (N := some 75) (v := ?_) (a' := ?_) #[true, true, false, false, false, false, false, false, false, false, false, false, false, false, false, false, false, false, false] rfl rfl (by kernel_rfl) (fun _ _ _ h => h) (Or.inl ⟨by rfl, ?_⟩) ?_ ?_
                rotate_left
                · intro w'
                  go_simp
                  with_reducible rfl
                rotate_left
                · simp only [Act.put, List.setIfInBounds_toArray, List.set_cons_zero, List.set_cons_succ, i64_w, i32_w]
                  rfl
                refine pure_ (i := 2) (N := some 76) (v := ?_) (a' := ?_) #[true, true, true, false, false, false, false, false, false, false, false, false, false, false, false, false, false, false, false] rfl rfl (by kernel_rfl) (fun _ _ _ h => h) (Or.inl ⟨by rfl, ?_⟩) ?_ ?_
                rotate_left
                · intro w'
                  go_simp
                  with_reducible rfl
                rotate_left
                · simp only [Act.put, List.setIfInBounds_toArray, List.set_cons_zero, List.set_cons_succ, i64_w, i32_w]
                  rfl
                refine pure_ (i := 3) (N := some 77) (v := ?_) (a' := ?_) #[true, true, true, true, false, false, false, false, false, false, false, false, false, false, false, false, false, false, false] rfl rfl (by kernel_rfl) (fun _ _ _ h => h) (Or.inl ⟨by rfl, ?_⟩) ?_ ?_
                rotate_left
                · intro w'
                  go_simp
                  with_reducible rfl
                rotate_left
                · simp only [Act.put, List.setIfInBounds_toArray, List.set_cons_zero, List.set_cons_succ, i64_w, i32_w]
                  rfl
                refine pure_ (i := 4) (N := some 78) (v := ?_) (a' := ?_) #[true, true, true, true, true, false, false, false, false, false, false, false, false, false, false, false, false, false, false] rfl rfl (by kernel_rfl) (fun _ _ _ h => h) (Or.inl ⟨by rfl, ?_⟩) ?_ ?_
                rotate_left
                · intro w'
                  go_simp
                  with_reducible rfl
                rotate_left
                · simp only [Act.put, List.setIfInBounds_toArray, List.set_cons_zero, List.set_cons_succ, i64_w, i32_w]
                  rfl
                refine pure_ (i := 5) (N := some 79) (v := ?_) (a' := ?_) #[true, true, true, true, true, true, false, false, false, false, false, false, false, false, false, false, false, false, false] rfl rfl (by kernel_rfl) (fun _ _ _ h => h) (Or.inl ⟨by rfl, ?_⟩) ?_ ?_
                rotate_left
                · intro w'
                  go_simp
                  with_reducible rfl
                rotate_left
                · simp only [Act.put, List.setIfInBounds_toArray, List.set_cons_zero, List.set_cons_succ, i64_w, i32_w]
                  rfl
                refine pure_ (i := 6) (N := some 80) (v := ?_) (a' := ?_) #[true, true, true, true, true, true, true, false, false, false, false, false, false, false, false, false, false, false, false] rfl rfl (by kernel_rfl) (fun _ _ _ h => h) (Or.inl ⟨by rfl, ?_⟩) ?_ ?_
                rotate_left
                · intro w'
                  go_simp
                  with_reducible rfl
                rotate_left
                · simp only [Act.put, List.setIfInBounds_toArray, List.set_cons_zero, List.set_cons_succ, i64_w, i32_w]
                  rfl
                refine pure_ (i := 8) (N := some 82) (v := ?_) (a' := ?_) #[true, true, true, true, true, true, true, false, true, false, false, false, false, false, false, false, false, false, false] rfl rfl (by kernel_rfl) (fun _ _ _ h => h) (Or.inl ⟨by rfl, ?_⟩) ?_ ?_
                rotate_left
                · intro w'
                  go_simp
                  with_reducible rfl
                rotate_left
                · simp only [Act.put, List.setIfInBounds_toArray, List.set_cons_zero, List.set_cons_succ, i64_w, i32_w]
                  rfl
                refine pure_ (i := 9) (N := some 83) (v := ?_) (a' := ?_) #[true, true, true, true, true, true, true, false, true, true, false, false, false, false, false, false, false, false, false] rfl rfl (by kernel_rfl) (fun _ _ _ h => h) (Or.inl ⟨by rfl, ?_⟩) ?_ ?_
                rotate_left
                · intro w'
                  go_simp
                  with_reducible rfl
                rotate_left
                · simp only [Act.put, List.setIfInBounds_toArray, List.set_cons_zero, List.set_cons_succ, i64_w, i32_w]
                  rfl
                refine pure_ (i := 10) (N := some 84) (v := ?_) (a' := ?_) #[true, true, true, true, true, true, true, false, true, true, true, false, false, false, false, false, false, false, false] rfl rfl (by kernel_rfl) (fun _ _ _ h => h) (Or.inl ⟨by rfl, ?_⟩) ?_ ?_
                rotate_left
                · intro w'
                  go_simp
                  with_reducible rfl
                rotate_left
                · simp only [Act.put, List.setIfInBounds_toArray, List.set_cons_zero, List.set_cons_succ, i64_w, i32_w]
                  rfl
                refine pure_ (i := 13) (N := some 87) (v := ?_) (a' := ?_) #[true, true, true, true, true, true, true, false, true, true, true, false, false, true, false, false, false, false, false] rfl rfl (by kernel_rfl) (fun _ _ _ h => h) (Or.inl ⟨by rfl, ?_⟩) ?_ ?_
                rotate_left
                · intro w'
                  go_simp
                  with_reducible rfl
                rotate_left
                · simp only [Act.put, List.setIfInBounds_toArray, List.set_cons_zero, List.set_cons_succ, i64_w, i32_w]
                  rfl
                refine pure_ (i := 14) (N := some 88) (v := ?_) (a' := ?_) #[true, true, true, true, true, true, true, false, true, true, true, false, false, true, true, false, false, false, false] rfl rfl (by kernel_rfl) (fun _ _ _ h => h) (Or.inl ⟨by rfl, ?_⟩) ?_ ?_
                rotate_left
                · intro w'
                  go_simp
                  with_reducible rfl
                rotate_left
                · simp only [Act.put, List.setIfInBounds_toArray, List.set_cons_zero, List.set_cons_succ, i64_w, i32_w]
                  rfl
                refine pure_ (i := 15) (N := some 89) (v := ?_) (a' := ?_) #[true, true, true, true, true, true, true, false, true, true, true, false, false, true, true, true, false, false, false] rfl rfl (by kernel_rfl) (fun _ _ _ h => h) (Or.inl ⟨by rfl, ?_⟩) ?_ ?_
                rotate_left
                · intro w'
                  go_simp
                  with_reducible rfl
                rotate_left
                · simp only [Act.put, List.setIfInBounds_toArray, List.set_cons_zero, List.set_cons_succ, i64_w, i32_w]
                  rfl
                refine take_ (i := 11) (N := some 85) (v := ?_) (a' := ?_) #[true, true, true, true, true, true, true, false, true, true, true, true, false, true, true, true, false, false, false] rfl rfl (by kernel_rfl) (fun _ _ _ h => h) (Or.inl ⟨by rfl, ?_⟩) hHeld ?_ ?_
                rotate_left
                · rintro w' ⟨s0, s1⟩
                  go_simp
                  with_reducible rfl
                rotate_left
                · simp only [Act.put, List.setIfInBounds_toArray, List.set_cons_zero, List.set_cons_succ, i64_w, i32_w]
                  rfl
                refine take_ (i := 16) (N := some 90) (v := ?_) (a' := ?_) #[true, true, true, true, true, true, true, false, true, true, true, true, false, true, true, true, true, false, false] rfl rfl (by kernel_rfl) (fun _ _ _ h => h) (Or.inl ⟨by rfl, ?_⟩) hHeld ?_ ?_
                rotate_left
                · rintro w' ⟨s0, s1⟩
                  go_simp
                  with_reducible rfl
                rotate_left
                · simp only [Act.put, List.setIfInBounds_toArray, List.set_cons_zero, List.set_cons_succ, i64_w, i32_w]
                  rfl
                refine one_ (i := 7) (N := some 81) #[true, true, true, true, true, true, true, true, true, true, true, true, false, true, true, true, true, false, false] rfl rfl (by kernel_rfl) (by decide) (fun K hK => ?_)
                refine goesF_ Try.func60 (by kernel_rfl) rfl #[.int .i64 (i : Int), .int .i64 (R : Int)] (by rfl) rfl rfl rfl (by simp only [List.map_toArray, List.map_cons, List.map_nil]; rfl) ?_
                show Calls Try.prog 60 #[.int .i64 (i : Int), .int .i64 (R : Int), .pointer (some ⟨w.heap.size, 0, none⟩), .pointer (some ⟨w1.heap.size, 0, none⟩)] _ _
                with_reducible refine (G.Best.ahead i R q _ _ A19 c19 pr _ (pw_cell_below (below_drew BI.out) XH.out.1) (pw_cell_below (below_drew BI.out) XH.out.2.1) (Kd.C_below XH.out.2.2.1 (below_drew BI.out)) (Sq.row HSQ.out i hi) hi hq hr256).mono ?_
                rintro e w5 ⟨rfl, rfl⟩
                refine ⟨_, rfl, ?_⟩
                refine hK.out _ _ ⟨hHeld.1, hHeld.2⟩ (fun hHeld => ?_)
                clear hK K
                refine norm_ (a' := ?_) ?_ ?_
                rotate_left
                · show Act.put _ (some 81) _ = _
                  simp only [Act.put, List.setIfInBounds_toArray, List.set_cons_zero, List.set_cons_succ, i64_w, i32_w]
                  rfl
                refine pure_ (i := 12) (N := some 86) (v := ?_) (a' := ?_) #[true, true, true, true, true, true, true, true, true, true, true, true, true, true, true, true, true, false, false] rfl rfl (by kernel_rfl) (fun _ _ _ h => h) (Or.inl ⟨by rfl, ?_⟩) ?_ ?_
                rotate_left
                · intro w'
                  go_simp
                  with_reducible rfl
                rotate_left
                · simp only [Act.put, List.setIfInBounds_toArray, List.set_cons_zero, List.set_cons_succ, i64_w, i32_w]
                  rfl
                refine pure_ (i := 17) (N := some 91) (v := ?_) (a' := ?_) #[true, true, true, true, true, true, true, true, true, true, true, true, true, true, true, true, true, true, false] rfl rfl (by kernel_rfl) (fun _ _ _ h => h) (Or.inl ⟨by rfl, ?_⟩) ?_ ?_
                rotate_left
                · intro w'
                  go_simp
                  with_reducible rfl
                rotate_left
                · simp only [Act.put, List.setIfInBounds_toArray, List.set_cons_zero, List.set_cons_succ, i64_w, i32_w]
                  rfl
                refine pure_ (i := 18) (N := some 92) (v := ?_) (a' := ?_) #[true, true, true, true, true, true, true, true, true, true, true, true, true, true, true, true, true, true, true] rfl rfl (by kernel_rfl) (fun _ _ _ h => h) (Or.inl ⟨by rfl, ?_⟩) ?_ ?_
                rotate_left
                · intro w'
                  go_simp
                  with_reducible rfl
                rotate_left
                · simp only [Act.put, List.setIfInBounds_toArray, List.set_cons_zero, List.set_cons_succ, i64_w, i32_w]
                  rfl
                refine done_ (by kernel_rfl) ?_

                go_wp2
                go_roundg (q - (i + 1))
                case measure => omega
                case rel => exact ⟨i + 1, by omega, by omega, rfl, rfl, by go_num, ⟨Kd.R_drew RO.out⟩, ⟨Kd.R_drew RB.out⟩, ⟨below_drew BI.out⟩⟩
        · obtain rfl : se = 0 := by omega
          have h0' : ¬ (0 : Int) < ((0 : Nat) : Int) := by omega
          have hn := ordO_zero ho
          subst hn
          rw [List.append_nil] at hl
          subst hl
          clear ho
          have hSZ : ((s - 1 : Nat) : Int) < (s : Int) := by omega
          obtain ⟨y0, z0⟩ := Kd.R_celln 0 RB.out ((s - 1 : Nat) : Int) (by omega) hSZ
          rw [Int.toNat_natCast] at y0 z0
          have hx0 : rdOf 0 T ((s - 1 : Nat) : Int) = T.getD (s - 1) 0 := rfl
          rw [hx0, HR2.out] at y0
          obtain ⟨xl, rfl⟩ : ∃ xl, xl = r2 := ⟨_, rfl⟩
          have hs0 : decide ((0 : Int) ≤ ((s - 1 : Nat) : Int)) = true := decide_eq_true (by omega)
          have hs1 : decide (((s - 1 : Nat) : Int) < (s : Int)) = true := decide_eq_true hSZ
          go_wp2
          refine start_ (n := 7) (S := fun w' => w'.cell? ⟨g, s - 1, none⟩ = some (.int .i64 xl)) (ds := []) #[false, false, false, false, false, false, false] (by kernel_rfl) rfl rfl ((show wr.drew.cell? ⟨g, s - 1, none⟩ = some (.int .i64 xl) from y0)) (fun hHeld => ?_)
          refine pure_ (i := 0) (N := some 99) (v := ?_) (a' := ?_) #[true, false, false, false, false, false, false] rfl rfl (by kernel_rfl) (fun _ _ _ h => h) (Or.inl ⟨by rfl, ?_⟩) ?_ ?_
          rotate_left
          · intro w'
            go_simp
            with_reducible rfl
          rotate_left
          · simp only [Act.put, List.setIfInBounds_toArray, List.set_cons_zero, List.set_cons_succ, i64_w, i32_w]
            rfl
          refine pure_ (i := 1) (N := some 100) (v := ?_) (a' := ?_) #[true, true, false, false, false, false, false] rfl rfl (by kernel_rfl) (fun _ _ _ h => h) (Or.inl ⟨by rfl, ?_⟩) ?_ ?_
          rotate_left
          · intro w'
            go_simp
            with_reducible rfl
          rotate_left
          · simp only [Act.put, List.setIfInBounds_toArray, List.set_cons_zero, List.set_cons_succ, i64_w, i32_w]
            rfl
          refine pure_ (i := 2) (N := some 101) (v := ?_) (a' := ?_) #[true, true, true, false, false, false, false] rfl rfl (by kernel_rfl) (fun _ _ _ h => h) (Or.inl ⟨by rfl, ?_⟩) ?_ ?_
          rotate_left
          · intro w'
            go_simp
            with_reducible rfl
          rotate_left
          · simp only [Act.put, List.setIfInBounds_toArray, List.set_cons_zero, List.set_cons_succ, i64_w, i32_w]
            rfl
          refine pure_ (i := 3) (N := some 102) (v := ?_) (a' := ?_) #[true, true, true, true, false, false, false] rfl rfl (by kernel_rfl) (fun _ _ _ h => h) (Or.inl ⟨by rfl, ?_⟩) ?_ ?_
          rotate_left
          · intro w'
            go_simp
            with_reducible rfl
          rotate_left
          · simp only [Act.put, List.setIfInBounds_toArray, List.set_cons_zero, List.set_cons_succ, i64_w, i32_w]
            rfl
          refine pure_ (i := 5) (N := some 4) (v := ?_) (a' := ?_) #[true, true, true, true, false, true, false] rfl rfl (by kernel_rfl) (fun _ _ _ h => h) (Or.inl ⟨by rfl, ?_⟩) ?_ ?_
          rotate_left
          · intro w'
            go_simp
            with_reducible rfl
          rotate_left
          · simp only [Act.put, List.setIfInBounds_toArray, List.set_cons_zero, List.set_cons_succ, i64_w, i32_w]
            rfl
          refine take_ (i := 4) (N := some 103) (v := ?_) (a' := ?_) #[true, true, true, true, true, true, false] rfl rfl (by kernel_rfl) (fun _ _ _ h => h) (Or.inl ⟨by rfl, ?_⟩) hHeld ?_ ?_
          rotate_left
          · intro w' s0
            go_simp
            with_reducible rfl
          rotate_left
          · simp only [Act.put, List.setIfInBounds_toArray, List.set_cons_zero, List.set_cons_succ, i64_w, i32_w]
            rfl
          refine pure_ (i := 6) (N := some 5) (v := ?_) (a' := ?_) #[true, true, true, true, true, true, true] rfl rfl (by kernel_rfl) (fun _ _ _ h => h) (Or.inl ⟨by rfl, ?_⟩) ?_ ?_
          rotate_left
          · intro w'
            go_simp
            with_reducible rfl
          rotate_left
          · simp only [Act.put, List.setIfInBounds_toArray, List.set_cons_zero, List.set_cons_succ, i64_w, i32_w]
            rfl
          refine done_ (by kernel_rfl) ?_

          go_wp2
          go_ret2
          exact ⟨_, rfl, Kd.R_mono (Kd.R_lower (Kd.R_drew RO.out) XH.out.2.2.2.size) (fun _ _ => trivial), below_then XH.out.2.2.2 XH.out.2.2.2.size (below_drew BI.out)⟩
end Go.Proofs.Ytngpjamojkneeaa.G
