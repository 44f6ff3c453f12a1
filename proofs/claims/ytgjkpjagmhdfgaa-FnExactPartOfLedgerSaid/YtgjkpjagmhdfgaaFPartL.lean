/- impl.PartOfLedger, walked by hand: its closure, slices.DeleteFunc on a clone. Printed by wip/tools/part.py. -/
import Derived.Test.YtgjkpjagmhdfgaaPl
import Derived.Test.YtgjkpjagmhdfgaaFSmall
import Derived.Test.YtgjkpjagmhdfgaaFDelEntry
import Derived.Test.YtgjkpjagmhdfgaaFCloneEntry
import Derived.Test.YtgjkpjagmhdfgaaFLibEntry
import Derived.BigQuiet
import Derived.ChangeAlike
import Derived.Test.YtgjkpjagmhdfgaaG2
namespace Go.Proofs.Ytgjkpjagmhdfgaa.G
open Go.RowKit Go.Proofs.YtgjkpjagmhdfgaaW.PrintWords Go.Proofs.YtgjkpjagmhdfgaaW.PrintLast Go.Proofs.YtgjkpjagmhdfgaaW.PrintMore
attribute [local go_sem] max2_int min2_int max_two min_two max_three min_three max_four min_four   -- for this text's walks alone
set_option linter.unusedVariables false
set_option linter.unusedSimpArgs false

open Go.Proofs.Ytgjkpjagmhdfgaa.Wk Go.Proofs.Ytgjkpjagmhdfgaa.Pl
namespace PartL
abbrev E := S63
/-- Is an entry no business of a party? -/
def off (q : Int) (x : E) : Bool := (wrap64 x.f1 != q) && (wrap64 x.f2 != q)
set_option maxHeartbeats 1000000 in
theorem clo (x : E) (q : Int) (a : Addr) (w : World) (h : w.cell? a = some (.int .i64 q)) :
    Calls Try.prog 47 #[.agg #[.int .i16 x.f0, .int .i8 x.f1, .int .i8 x.f2, .int .u8 x.f3, .int .i16 x.f4], .pointer (some a)] w fun e w' => e = .returned (.bool (off q x)) ∧ Below w.heap.size w w' := by
  unfold off
  have h2 : (w.alloc (.cells #[.int .i16 x.f0, .int .i8 x.f1, .int .i8 x.f2, .int .u8 x.f3, .int .i16 x.f4] 63)).cell? a = some (.int .i64 q) := pw_cell_below ((Below.refl _ _).alloc (Nat.le_refl _) _) h
  cases h1 : (wrap64 x.f1 != q)
  · go_enter Try.func47, Try.ntmps47
    go_wp2
    go_ret
    exact ⟨rfl, (Below.refl _ _).alloc (Nat.le_refl _) _⟩
  · go_enter Try.func47, Try.ntmps47
    go_wp2
    go_ret
    exact ⟨by simp, (Below.refl _ _).alloc (Nat.le_refl _) _⟩
theorem code_one (p q : Int) (l : List E) : Sm.code (ledgerB p l) (inB q 0 (wrap64 (p - 1))) = 0 → ledgerB p l = true ∧ inB q 0 (wrap64 (p - 1)) = true := by
  unfold Sm.code
  cases ledgerB p l <;> cases inB q 0 (wrap64 (p - 1)) <;> simp
end PartL
open PartL
def impl_PartOfLedger.f (a0 : Int) (l1 : List E) (a2 : Int) : Option (List E × Int) :=
  if l1.length ≤ 1048576 then some (if Sm.code (ledgerB a0 l1) (inB a2 0 (wrap64 (a0 - 1))) = 0 then (l1.filter (fun x => !(off a2 x)), 0) else ([], Sm.code (ledgerB a0 l1) (inB a2 0 (wrap64 (a0 - 1))))) else none
set_option maxHeartbeats 4000000 in
set_option maxRecDepth 100000 in
theorem impl_PartOfLedger.calls (a0 : Int) (A1 : Option Addr) (c1 : Nat) (l1 : List E) (a2 : Int) (r1 : List E) (r2 : Int) (w : World) (hr1 : Kd.C k63 w A1 l1.length l1) (hc1 : l1.length ≤ c1) (h : impl_PartOfLedger.f a0 l1 a2 = some (r1, r2)) :
    Calls Try.prog 22 #[.int .i64 a0, .slice A1 l1.length c1, .int .i64 a2] w fun e w' => ∃ v : Value, e = .returned (.tuple #[v, .int .i64 r2]) ∧ Kd.R k63 63 w' w.heap.size (fun _ => True) v r1 ∧ Below w.heap.size w w' := by
  unfold impl_PartOfLedger.f at h
  by_cases hlim : l1.length ≤ 1048576
  case neg => rw [if_neg hlim] at h; cases h
  rw [if_pos hlim] at h
  replace h := Option.some.inj h
  have HR := Aside0.mk hr1
  clear hr1
  have hv := validLedger_tells a0 l1 (by omega) (l1.length + 1) (by omega)
  obtain ⟨kv, hkv⟩ : ∃ kv, kv = l1.length + 1 := ⟨_, rfl⟩
  rw [← hkv] at hv
  clear hkv
  obtain ⟨vb, hvb⟩ : ∃ vb, vb = ledgerB a0 l1 := ⟨_, rfl⟩
  rw [← hvb] at hv h
  clear hvb
  have HV := Lib.hid hv
  clear hv
  have HCL := Lib.hid (show cloneEntry.f l1 = some l1 by unfold cloneEntry.f; rw [if_pos (by omega)])
  have B0 := Aside0.mk (below_drew1 ((Below.refl w.heap.size w).alloc (Nat.le_refl _) (.cells #[.int .i64 a2] 2)))
  obtain ⟨cd, hcd⟩ : ∃ cd, cd = Sm.code vb (inB a2 0 (wrap64 (a0 - 1))) := ⟨_, rfl⟩
  rw [← hcd] at h
  have HCD := Lib.hid hcd
  clear hcd
  by_cases hz : cd = 0
  · rw [if_pos hz] at h
    subst hz
    obtain ⟨rfl, rfl⟩ := Prod.mk.inj h
    clear h
    go_enter Try.func22, Try.ntmps22
    go_wp2
    refine start_ (n := 8) (S := fun w' => w'.cell? ⟨w.heap.size, 0, none⟩ = some (.int .i64 a2)) (ds := []) #[false, false, false, false, false, false, false, false] (by kernel_rfl) rfl rfl ((show (w.alloc (.cells #[.int .i64 a2] 2)).drew.cell? ⟨w.heap.size, 0, none⟩ = some (.int .i64 a2) by simp)) (fun hHeld => ?_)
    refine pure_ (i := 0) (N := some 9) (v := ?_) (a' := ?_) #[true, false, false, false, false, false, false, false] rfl rfl (by kernel_rfl) (fun _ _ _ h => h) (Or.inl ⟨by rfl, ?_⟩) ?_ ?_
    rotate_left
    · intro w'
      go_simp
      with_reducible rfl
    rotate_left
    · simp only [Act.put, List.setIfInBounds_toArray, List.set_cons_zero, List.set_cons_succ, i64_w, i32_w]
      rfl
    refine pure_ (i := 1) (N := some 10) (v := ?_) (a' := ?_) #[true, true, false, false, false, false, false, false] rfl rfl (by kernel_rfl) (fun _ _ _ h => h) (Or.inl ⟨by rfl, ?_⟩) ?_ ?_
    rotate_left
    · intro w'
      go_simp
      with_reducible rfl
    rotate_left
    · simp only [Act.put, List.setIfInBounds_toArray, List.set_cons_zero, List.set_cons_succ, i64_w, i32_w]
      rfl
    refine pure_ (i := 3) (N := some 12) (v := ?_) (a' := ?_) #[true, true, false, true, false, false, false, false] rfl rfl (by kernel_rfl) (fun _ _ _ h => h) (Or.inl ⟨by rfl, ?_⟩) ?_ ?_
    rotate_left
    · intro w'
      go_simp
      with_reducible rfl
    rotate_left
    · simp only [Act.put, List.setIfInBounds_toArray, List.set_cons_zero, List.set_cons_succ, i64_w, i32_w]
      rfl
    refine take_ (i := 4) (N := some 13) (v := ?_) (a' := ?_) #[true, true, false, true, true, false, false, false] rfl rfl (by kernel_rfl) (fun _ _ _ h => h) (Or.inl ⟨by rfl, ?_⟩) hHeld ?_ ?_
    rotate_left
    · intro w' s0
      go_simp
      with_reducible rfl
    rotate_left
    · simp only [Act.put, List.setIfInBounds_toArray, List.set_cons_zero, List.set_cons_succ, i64_w, i32_w]
      rfl
    refine one_ (i := 2) (N := some 11) #[true, true, true, true, true, false, false, false] rfl rfl (by kernel_rfl) (by decide) (fun K hK => ?_)
    refine goes_ Try.func44 (by kernel_rfl) rfl #[.int .i64 a0, .slice A1 l1.length c1] (by rfl) rfl rfl (by simp only [List.map_toArray, List.map_cons, List.map_nil]; rfl) ?_
    with_reducible refine (impl_ValidLedger.calls kv a0 A1 c1 l1 vb _ (Kd.C_below HR.out B0.out) hc1 HV.out).mono ?_
    rintro e w3 ⟨rfl, hb⟩
    refine ⟨_, rfl, ?_⟩
    have B1 := Aside0.mk (below_then B0.out B0.out.size hb)
    refine hK.out _ _ (pw_cell_below hb hHeld) (fun hHeld => ?_)
    clear hK K
    refine norm_ (a' := ?_) ?_ ?_
    rotate_left
    · show Act.put _ (some 11) _ = _
      simp only [Act.put, List.setIfInBounds_toArray, List.set_cons_zero, List.set_cons_succ, i64_w, i32_w]
      rfl
    refine one_ (i := 5) (N := some 14) #[true, true, true, true, true, true, false, false] rfl rfl (by kernel_rfl) (by decide) (fun K hK => ?_)
    refine goes_ Try.func34 (by kernel_rfl) rfl #[.int .i64 a0, .int .i64 a2] (by rfl) rfl rfl (by simp only [List.map_toArray, List.map_cons, List.map_nil]; rfl) ?_
    with_reducible refine (Sm.isParty a0 a2 _).mono ?_
    rintro e w4 ⟨rfl, rfl⟩
    refine ⟨_, rfl, ?_⟩
    refine hK.out _ _ (hHeld) (fun hHeld => ?_)
    clear hK K
    refine norm_ (a' := ?_) ?_ ?_
    rotate_left
    · show Act.put _ (some 14) _ = _
      simp only [Act.put, List.setIfInBounds_toArray, List.set_cons_zero, List.set_cons_succ, i64_w, i32_w]
      rfl
    refine one_ (i := 6) (N := some 15) #[true, true, true, true, true, true, true, false] rfl rfl (by kernel_rfl) (by decide) (fun K hK => ?_)
    refine goes_ Try.func43 (by kernel_rfl) rfl #[.bool vb, .bool (inB a2 0 (wrap64 (a0 - 1)))] (by rfl) rfl rfl (by simp only [List.map_toArray, List.map_cons, List.map_nil]; rfl) ?_
    with_reducible refine (Sm.codeOf vb _ _).mono ?_
    rintro e w5 ⟨rfl, rfl⟩
    refine ⟨_, rfl, ?_⟩
    refine hK.out _ _ (hHeld) (fun hHeld => ?_)
    clear hK K
    refine norm_ (a' := ?_) ?_ ?_
    rotate_left
    · show Act.put _ (some 15) _ = _
      simp only [Act.put, List.setIfInBounds_toArray, List.set_cons_zero, List.set_cons_succ, i64_w, i32_w]
      rfl
    refine pure_ (i := 7) (N := some 8) (v := ?_) (a' := ?_) #[true, true, true, true, true, true, true, true] rfl rfl (by kernel_rfl) (fun _ _ _ h => h) (Or.inl ⟨by rfl, ?_⟩) ?_ ?_
    rotate_left
    · intro w'
      go_simp
      with_reducible rfl
    rotate_left
    · simp only [Act.put, List.setIfInBounds_toArray, List.set_cons_zero, List.set_cons_succ, i64_w, i32_w]
      rfl
    refine done_ (by kernel_rfl) ?_

    rw [← HCD.out]
    have HB1 := Aside0.mk hHeld
    clear hHeld
    have eg : ∀ args w, (callFunc 47 args).run Try.prog w = .ok (.enter 47 args) w := enters_of Try.func47 (by kernel_rfl) rfl
    have EG := Aside0.mk eg
    clear eg
    go_wp2_with (first | (go_at_call 46; (refine (cloneEntry.calls A1 c1 l1 l1 _ (Kd.C_below HR.out B1.out) hc1 HCL.out).mono ?_; rintro e w6 ⟨v6, rfl, hR6, hb6⟩; have R6 := Aside0.mk hR6; have B6 := Aside0.mk (below_then B1.out B1.out.size hb6); have X6 := Aside0.mk (pw_cell_below hb6 HB1.out); have S6 := Aside0.mk (World.block_lt_of_cell? _ _ HB1.out); clear hR6 hb6)) | (go_at_call 45; (refine (DelEntry.deleteFunc v6 l1 (off a2) 47 #[.pointer (some ⟨w.heap.size, 0, none⟩)] _ _ (fun _ => True) EG.out hlim R6.out ?hp).mono ?_; (case hp => exact fun x _ W hg => clo x a2 _ W (World.grownBy.cell hg X6.out (fun e => Nat.lt_irrefl _ (Nat.lt_of_lt_of_le S6.out (Kd.R_base R6.out _ e.symm))))); rintro e w7 ⟨v7, rfl, hR7, hg7⟩; have R7 := Aside0.mk hR7; have B7 := Aside0.mk (pw_below_grown B6.out _ B6.out.size hg7 (fun k hk => Nat.le_trans B1.out.size (Kd.R_base R6.out k hk))); clear hR7 hg7)))
    go_ret2
    exact ⟨_, rfl, Kd.R_lower R7.out B1.out.size, B7.out⟩
  · rw [if_neg hz] at h
    obtain ⟨rfl, rfl⟩ := Prod.mk.inj h
    clear h
    have hz1 : (cd != 0) = true := bne_iff_ne.mpr hz
    have hz2 : (cd == 0) = false := beq_eq_false_iff_ne.mpr hz
    clear hz
    go_enter Try.func22, Try.ntmps22
    go_wp2
    refine start_ (n := 8) (S := fun w' => w'.cell? ⟨w.heap.size, 0, none⟩ = some (.int .i64 a2)) (ds := []) #[false, false, false, false, false, false, false, false] (by kernel_rfl) rfl rfl ((show (w.alloc (.cells #[.int .i64 a2] 2)).drew.cell? ⟨w.heap.size, 0, none⟩ = some (.int .i64 a2) by simp)) (fun hHeld => ?_)
    refine pure_ (i := 0) (N := some 9) (v := ?_) (a' := ?_) #[true, false, false, false, false, false, false, false] rfl rfl (by kernel_rfl) (fun _ _ _ h => h) (Or.inl ⟨by rfl, ?_⟩) ?_ ?_
    rotate_left
    · intro w'
      go_simp
      with_reducible rfl
    rotate_left
    · simp only [Act.put, List.setIfInBounds_toArray, List.set_cons_zero, List.set_cons_succ, i64_w, i32_w]
      rfl
    refine pure_ (i := 1) (N := some 10) (v := ?_) (a' := ?_) #[true, true, false, false, false, false, false, false] rfl rfl (by kernel_rfl) (fun _ _ _ h => h) (Or.inl ⟨by rfl, ?_⟩) ?_ ?_
    rotate_left
    · intro w'
      go_simp
      with_reducible rfl
    rotate_left
    · simp only [Act.put, List.setIfInBounds_toArray, List.set_cons_zero, List.set_cons_succ, i64_w, i32_w]
      rfl
    refine pure_ (i := 3) (N := some 12) (v := ?_) (a' := ?_) #[true, true, false, true, false, false, false, false] rfl rfl (by kernel_rfl) (fun _ _ _ h => h) (Or.inl ⟨by rfl, ?_⟩) ?_ ?_
    rotate_left
    · intro w'
      go_simp
      with_reducible rfl
    rotate_left
    · simp only [Act.put, List.setIfInBounds_toArray, List.set_cons_zero, List.set_cons_succ, i64_w, i32_w]
      rfl
    refine take_ (i := 4) (N := some 13) (v := ?_) (a' := ?_) #[true, true, false, true, true, false, false, false] rfl rfl (by kernel_rfl) (fun _ _ _ h => h) (Or.inl ⟨by rfl, ?_⟩) hHeld ?_ ?_
    rotate_left
    · intro w' s0
      go_simp
      with_reducible rfl
    rotate_left
    · simp only [Act.put, List.setIfInBounds_toArray, List.set_cons_zero, List.set_cons_succ, i64_w, i32_w]
      rfl
    refine one_ (i := 2) (N := some 11) #[true, true, true, true, true, false, false, false] rfl rfl (by kernel_rfl) (by decide) (fun K hK => ?_)
    refine goes_ Try.func44 (by kernel_rfl) rfl #[.int .i64 a0, .slice A1 l1.length c1] (by rfl) rfl rfl (by simp only [List.map_toArray, List.map_cons, List.map_nil]; rfl) ?_
    with_reducible refine (impl_ValidLedger.calls kv a0 A1 c1 l1 vb _ (Kd.C_below HR.out B0.out) hc1 HV.out).mono ?_
    rintro e w3 ⟨rfl, hb⟩
    refine ⟨_, rfl, ?_⟩
    have B1 := Aside0.mk (below_then B0.out B0.out.size hb)
    refine hK.out _ _ (pw_cell_below hb hHeld) (fun hHeld => ?_)
    clear hK K
    refine norm_ (a' := ?_) ?_ ?_
    rotate_left
    · show Act.put _ (some 11) _ = _
      simp only [Act.put, List.setIfInBounds_toArray, List.set_cons_zero, List.set_cons_succ, i64_w, i32_w]
      rfl
    refine one_ (i := 5) (N := some 14) #[true, true, true, true, true, true, false, false] rfl rfl (by kernel_rfl) (by decide) (fun K hK => ?_)
    refine goes_ Try.func34 (by kernel_rfl) rfl #[.int .i64 a0, .int .i64 a2] (by rfl) rfl rfl (by simp only [List.map_toArray, List.map_cons, List.map_nil]; rfl) ?_
    with_reducible refine (Sm.isParty a0 a2 _).mono ?_
    rintro e w4 ⟨rfl, rfl⟩
    refine ⟨_, rfl, ?_⟩
    refine hK.out _ _ (hHeld) (fun hHeld => ?_)
    clear hK K
    refine norm_ (a' := ?_) ?_ ?_
    rotate_left
    · show Act.put _ (some 14) _ = _
      simp only [Act.put, List.setIfInBounds_toArray, List.set_cons_zero, List.set_cons_succ, i64_w, i32_w]
      rfl
    refine one_ (i := 6) (N := some 15) #[true, true, true, true, true, true, true, false] rfl rfl (by kernel_rfl) (by decide) (fun K hK => ?_)
    refine goes_ Try.func43 (by kernel_rfl) rfl #[.bool vb, .bool (inB a2 0 (wrap64 (a0 - 1)))] (by rfl) rfl rfl (by simp only [List.map_toArray, List.map_cons, List.map_nil]; rfl) ?_
    with_reducible refine (Sm.codeOf vb _ _).mono ?_
    rintro e w5 ⟨rfl, rfl⟩
    refine ⟨_, rfl, ?_⟩
    refine hK.out _ _ (hHeld) (fun hHeld => ?_)
    clear hK K
    refine norm_ (a' := ?_) ?_ ?_
    rotate_left
    · show Act.put _ (some 15) _ = _
      simp only [Act.put, List.setIfInBounds_toArray, List.set_cons_zero, List.set_cons_succ, i64_w, i32_w]
      rfl
    refine pure_ (i := 7) (N := some 8) (v := ?_) (a' := ?_) #[true, true, true, true, true, true, true, true] rfl rfl (by kernel_rfl) (fun _ _ _ h => h) (Or.inl ⟨by rfl, ?_⟩) ?_ ?_
    rotate_left
    · intro w'
      go_simp
      with_reducible rfl
    rotate_left
    · simp only [Act.put, List.setIfInBounds_toArray, List.set_cons_zero, List.set_cons_succ, i64_w, i32_w]
      rfl
    refine done_ (by kernel_rfl) ?_

    rw [← HCD.out]
    go_wp2
    go_ret2
    exact ⟨_, rfl, Kd.R_nil _ _ _ _ _, B1.out⟩
end Go.Proofs.Ytgjkpjagmhdfgaa.G
