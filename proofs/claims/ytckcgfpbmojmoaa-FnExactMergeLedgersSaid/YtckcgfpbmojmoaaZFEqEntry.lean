import Derived.Test.YtckcgfpbmojmoaaZG0
import Derived.Test.YtckcgfpbmojmoaaZWk
import Derived.Test.YtckcgfpbmojmoaaZPl
import Derived.BigQuiet
namespace Go.Proofs.Ytckcgfpbmojmoaa.G
open Go.RowKit Go.Proofs.YtckcgfpbmojmoaaW.PrintWords Go.Proofs.YtckcgfpbmojmoaaW.PrintLast Go.Proofs.YtckcgfpbmojmoaaW.PrintMore
attribute [local go_sem] max2_int min2_int max_two min_two max_three min_three max_four min_four
set_option linter.unusedVariables false
set_option linter.unusedSimpArgs false
open Go.Proofs.Ytckcgfpbmojmoaa.Wk Go.Proofs.Ytckcgfpbmojmoaa.Pl
namespace EqEntry
theorem relet {P : Program} {md : Region.Mode} {ops : Array Oper} {Q : Exit → Act → World → Prop} {S : World → Prop} {ds : List Nat} {fuel : Nat} {l : Array Bool} {a : Act} {W : World} (F : World → Prop) (hF : F W) (h : ∀ w', F w' → wpAnyLast P md ops Q S ds fuel l a w') : wpAnyLast P md ops Q S ds fuel l a W := h W hF
def eqB (a b : S40) : Bool := (a.f0 == b.f0) && ((a.f1 == b.f1) && ((a.f2 == b.f2) && ((a.f3 == b.f3) && ((a.f4 == b.f4)))))
set_option maxHeartbeats 2000000 in
theorem one (a b : S40) (w : World) : Calls Try.prog 37 #[.agg #[.int .i16 a.f0, .int .i8 a.f1, .int .i8 a.f2, .int .u8 a.f3, .int .i16 a.f4], .agg #[.int .i16 b.f0, .int .i8 b.f1, .int .i8 b.f2, .int .u8 b.f3, .int .i16 b.f4]] w fun e w' => e = .returned (.bool (eqB a b)) ∧ Below w.heap.size w w' := by
  unfold eqB
  cases e0 : (a.f0 == b.f0)
  · have n0 : (a.f0 != b.f0) = true := by rw [bne, e0]; rfl
    go_enter Try.func37, Try.ntmps37
    go_wp2
    go_ret
    exact ⟨by simp, ((Below.refl _ _).alloc (Nat.le_refl _) _).alloc (by simp) _⟩
  · have n0 : (a.f0 != b.f0) = false := by rw [bne, e0]; rfl
    cases e1 : (a.f1 == b.f1)
    · have n1 : (a.f1 != b.f1) = true := by rw [bne, e1]; rfl
      go_enter Try.func37, Try.ntmps37
      go_wp2
      go_ret
      exact ⟨by simp, ((Below.refl _ _).alloc (Nat.le_refl _) _).alloc (by simp) _⟩
    · have n1 : (a.f1 != b.f1) = false := by rw [bne, e1]; rfl
      cases e2 : (a.f2 == b.f2)
      · have n2 : (a.f2 != b.f2) = true := by rw [bne, e2]; rfl
        go_enter Try.func37, Try.ntmps37
        go_wp2
        go_ret
        exact ⟨by simp, ((Below.refl _ _).alloc (Nat.le_refl _) _).alloc (by simp) _⟩
      · have n2 : (a.f2 != b.f2) = false := by rw [bne, e2]; rfl
        cases e3 : (a.f3 == b.f3)
        · have n3 : (a.f3 != b.f3) = true := by rw [bne, e3]; rfl
          go_enter Try.func37, Try.ntmps37
          go_wp2
          go_ret
          exact ⟨by simp, ((Below.refl _ _).alloc (Nat.le_refl _) _).alloc (by simp) _⟩
        · have n3 : (a.f3 != b.f3) = false := by rw [bne, e3]; rfl
          cases e4 : (a.f4 == b.f4)
          · have n4 : (a.f4 != b.f4) = true := by rw [bne, e4]; rfl
            go_enter Try.func37, Try.ntmps37
            go_wp2
            go_ret
            exact ⟨by simp, ((Below.refl _ _).alloc (Nat.le_refl _) _).alloc (by simp) _⟩
          · have n4 : (a.f4 != b.f4) = false := by rw [bne, e4]; rfl
            go_enter Try.func37, Try.ntmps37
            go_wp2
            go_ret
            exact ⟨by simp, ((Below.refl _ _).alloc (Nat.le_refl _) _).alloc (by simp) _⟩
def eqs (a b : List S40) : Bool := decide (a.length = b.length) && (List.range a.length).all fun j => eqB (a.getD j z40) (b.getD j z40)
end EqEntry
def laws_eqEntryS.f (l0 l1 : List S40) : Option Bool := some (EqEntry.eqs l0 l1)
theorem eqEntryS_tells (l : List S40) (hl : l.length * 8 ≤ 140737488355328) : ∀ k : Nat, l.length < k → laws_eqEntryS.f l l = some true := by
  intro k _
  unfold laws_eqEntryS.f EqEntry.eqs EqEntry.eqB
  simp
open EqEntry in
set_option maxHeartbeats 8000000 in
set_option maxRecDepth 100000 in
theorem laws_eqEntryS.calls (A0 : Option Addr) (c0 : Nat) (l0 : List S40) (A1 : Option Addr) (c1 : Nat) (l1 : List S40) (r : Bool) (w : World) (hr0 : Kd.C k40 w A0 l0.length l0) (hc0 : l0.length ≤ c0) (hr1 : Kd.C k40 w A1 l1.length l1) (hc1 : l1.length ≤ c1) (h : laws_eqEntryS.f l0 l1 = some r) :
    Calls Try.prog 9 #[.slice A0 l0.length c0, .slice A1 l1.length c1] w fun e w' => e = .returned (.bool r) ∧ Below w.heap.size w w' := by
  have h := Option.some.inj h
  have hbig0 : l0.length ≤ 9223372036854775807 := hr0.2.1
  have hbig1 : l1.length ≤ 9223372036854775807 := hr1.2.1
  have HR0 := Aside0.mk hr0; have HR1 := Aside0.mk hr1; clear hr0 hr1; by_cases hlen : l0.length = l1.length
  case neg =>
    have hr : r = false := by rw [← h]; unfold EqEntry.eqs; simp [hlen]
    subst hr; have e1 : ((l0.length : Int) != (l1.length : Int)) = true := by rw [bne_iff_ne]; omega
    have e2 : ((l0.length : Int) == (l1.length : Int)) = false := by rw [beq_eq_false_iff_ne]; omega
    have e3 : (l0.length != l1.length) = true := by rw [bne_iff_ne]; omega
    have e4 : (l0.length == l1.length) = false := by rw [beq_eq_false_iff_ne]; omega
    clear h; go_enter Try.func9, Try.ntmps9
    go_wp2
    go_ret
    exact ⟨rfl, Below.refl _ _⟩
  have hr : r = (List.range l0.length).all fun j => eqB (l0.getD j z40) (l1.getD j z40) := by rw [← h]; unfold EqEntry.eqs; simp [hlen]
  have Hr := Lib.hid hr
  have HL := Lib.hid hlen
  clear hr h hlen; have e1 : ((l0.length : Int) != (l1.length : Int)) = false := by rw [bne_eq_false_iff_eq, HL.out]
  have e2 : ((l0.length : Int) == (l1.length : Int)) = true := by rw [beq_iff_eq, HL.out]
  have e3 : (l0.length != l1.length) = false := by rw [bne_eq_false_iff_eq, HL.out]
  have e4 : (l0.length == l1.length) = true := by rw [beq_iff_eq, HL.out]
  go_enter Try.func9, Try.ntmps9
  go_wp2
  go_loopg [5] l0.length (fun gg s5 wr => ∃ kk : Nat, kk ≤ l0.length ∧ l0.length - kk ≤ gg ∧ s5 = .int .i64 kk ∧ Aside0 (Below w.heap.size w wr) ∧ Aside0 (∀ j : Nat, j < kk → eqB (l0.getD j z40) (l1.getD j z40) = true))
  case atStart => exact ⟨0, Nat.zero_le _, by omega, rfl, ⟨Below.refl _ _⟩, ⟨fun j hj => absurd hj (Nat.not_lt_zero _)⟩⟩
  case round =>
    obtain ⟨kk, hk, hgg, rfl, HB, HA⟩ := hrel
    by_cases hlt : kk < l0.length
    · have hlt' : (kk : Int) < (l0.length : Int) := by omega
      have hlt2 : (kk : Int) < (l1.length : Int) := by rw [← HL.out]; omega
      have hlt3 : kk < l1.length := by rw [← HL.out]; exact hlt
      obtain ⟨ad, rfl, x0, x1, x2, x3, x4⟩ := at_T40 HR0.out kk (by omega) (by omega)
      obtain ⟨bd, rfl, u0, u1, u2, u3, u4⟩ := at_T40 HR1.out kk (by omega) (by omega)
      rw [Int.toNat_natCast] at x0 x1 x2 x3 x4 u0 u1 u2 u3 u4
      rw [show rd_T40 l0 (kk : Int) = l0.getD kk z40 from rfl] at x0 x1 x2 x3 x4
      rw [show rd_T40 l1 (kk : Int) = l1.getD kk z40 from rfl] at u0 u1 u2 u3 u4
      replace x0 := pw_cell_below HB.out x0
      replace x1 := pw_cell_below HB.out x1
      replace x2 := pw_cell_below HB.out x2
      replace x3 := pw_cell_below HB.out x3
      replace x4 := pw_cell_below HB.out x4
      replace u0 := pw_cell_below HB.out u0
      replace u1 := pw_cell_below HB.out u1
      replace u2 := pw_cell_below HB.out u2
      replace u3 := pw_cell_below HB.out u3
      replace u4 := pw_cell_below HB.out u4
      obtain ⟨y, hy⟩ : ∃ y, y = l0.getD kk z40 := ⟨_, rfl⟩
      obtain ⟨u, hu⟩ : ∃ u, u = l1.getD kk z40 := ⟨_, rfl⟩
      rw [← hy] at x0 x1 x2 x3 x4
      rw [← hu] at u0 u1 u2 u3 u4
      have Hy := Lib.hid hy
      have Hu := Lib.hid hu
      clear hy hu; cases hq : eqB y u
      · have Hq := Lib.hid hq
        go_wp2
        refine start_ (n := 10) (S := fun w' => w'.cell? (ad.add (kk * 5)) = some (.int .i16 y.f0) ∧ w'.cell? ⟨(ad.add (kk * 5)).block, (ad.add (kk * 5)).off + 1, none⟩ = some (.int .i8 y.f1) ∧ w'.cell? ⟨(ad.add (kk * 5)).block, (ad.add (kk * 5)).off + 2, none⟩ = some (.int .i8 y.f2) ∧ w'.cell? ⟨(ad.add (kk * 5)).block, (ad.add (kk * 5)).off + 3, none⟩ = some (.int .u8 y.f3) ∧ w'.cell? ⟨(ad.add (kk * 5)).block, (ad.add (kk * 5)).off + 4, none⟩ = some (.int .i16 y.f4) ∧ w'.cell? (bd.add (kk * 5)) = some (.int .i16 u.f0) ∧ w'.cell? ⟨(bd.add (kk * 5)).block, (bd.add (kk * 5)).off + 1, none⟩ = some (.int .i8 u.f1) ∧ w'.cell? ⟨(bd.add (kk * 5)).block, (bd.add (kk * 5)).off + 2, none⟩ = some (.int .i8 u.f2) ∧ w'.cell? ⟨(bd.add (kk * 5)).block, (bd.add (kk * 5)).off + 3, none⟩ = some (.int .u8 u.f3) ∧ w'.cell? ⟨(bd.add (kk * 5)).block, (bd.add (kk * 5)).off + 4, none⟩ = some (.int .i16 u.f4)) (ds := []) #[false, false, false, false, false, false, false, false, false, false] (by kernel_rfl) rfl rfl ⟨x0, x1, x2, x3, x4, u0, u1, u2, u3, u4⟩ (fun hHeld => ?_)
        refine pure_ (i := 0) (N := some 17) (v := ?_) (a' := ?_) #[true, false, false, false, false, false, false, false, false, false] rfl rfl (by kernel_rfl) (fun _ _ _ h => h) (Or.inl ⟨by rfl, ?_⟩) ?_ ?_
        rotate_left
        · intro w'
          go_simp
          with_reducible rfl
        rotate_left
        · simp only [Act.put, List.setIfInBounds_toArray, List.set_cons_zero, List.set_cons_succ, i64_w, i32_w]
          rfl
        refine pure_ (i := 1) (N := some 18) (v := ?_) (a' := ?_) #[true, true, false, false, false, false, false, false, false, false] rfl rfl (by kernel_rfl) (fun _ _ _ h => h) (Or.inl ⟨by rfl, ?_⟩) ?_ ?_
        rotate_left
        · intro w'
          go_simp
          with_reducible rfl
        rotate_left
        · simp only [Act.put, List.setIfInBounds_toArray, List.set_cons_zero, List.set_cons_succ, i64_w, i32_w]
          rfl
        refine pure_ (i := 2) (N := some 19) (v := ?_) (a' := ?_) #[true, true, true, false, false, false, false, false, false, false] rfl rfl (by kernel_rfl) (fun _ _ _ h => h) (Or.inl ⟨by rfl, ?_⟩) ?_ ?_
        rotate_left
        · intro w'
          go_simp
          with_reducible rfl
        rotate_left
        · simp only [Act.put, List.setIfInBounds_toArray, List.set_cons_zero, List.set_cons_succ, i64_w, i32_w]
          rfl
        refine pure_ (i := 4) (N := some 21) (v := ?_) (a' := ?_) #[true, true, true, false, true, false, false, false, false, false] rfl rfl (by kernel_rfl) (fun _ _ _ h => h) (Or.inl ⟨by rfl, ?_⟩) ?_ ?_
        rotate_left
        · intro w'
          go_simp
          with_reducible rfl
        rotate_left
        · simp only [Act.put, List.setIfInBounds_toArray, List.set_cons_zero, List.set_cons_succ, i64_w, i32_w]
          rfl
        refine pure_ (i := 5) (N := some 22) (v := ?_) (a' := ?_) #[true, true, true, false, true, true, false, false, false, false] rfl rfl (by kernel_rfl) (fun _ _ _ h => h) (Or.inl ⟨by rfl, ?_⟩) ?_ ?_
        rotate_left
        · intro w'
          go_simp
          with_reducible rfl
        rotate_left
        · simp only [Act.put, List.setIfInBounds_toArray, List.set_cons_zero, List.set_cons_succ, i64_w, i32_w]
          rfl
        refine pure_ (i := 6) (N := some 23) (v := ?_) (a' := ?_) #[true, true, true, false, true, true, true, false, false, false] rfl rfl (by kernel_rfl) (fun _ _ _ h => h) (Or.inl ⟨by rfl, ?_⟩) ?_ ?_
        rotate_left
        · intro w'
          go_simp
          with_reducible rfl
        rotate_left
        · simp only [Act.put, List.setIfInBounds_toArray, List.set_cons_zero, List.set_cons_succ, i64_w, i32_w]
          rfl
        refine take_ (i := 3) (N := some 20) (v := ?_) (a' := ?_) #[true, true, true, true, true, true, true, false, false, false] rfl rfl (by kernel_rfl) (fun _ _ _ h => h) (Or.inl ⟨by rfl, ?_⟩) hHeld ?_ ?_
        rotate_left
        · rintro w' ⟨s0, s1, s2, s3, s4, s5, s6, s7, s8, s9⟩
          go_simp
          with_reducible rfl
        rotate_left
        · simp only [Act.put, List.setIfInBounds_toArray, List.set_cons_zero, List.set_cons_succ, i64_w, i32_w]
          rfl
        refine take_ (i := 7) (N := some 24) (v := ?_) (a' := ?_) #[true, true, true, true, true, true, true, true, false, false] rfl rfl (by kernel_rfl) (fun _ _ _ h => h) (Or.inl ⟨by rfl, ?_⟩) hHeld ?_ ?_
        rotate_left
        · rintro w' ⟨s0, s1, s2, s3, s4, s5, s6, s7, s8, s9⟩
          go_simp
          with_reducible rfl
        rotate_left
        · simp only [Act.put, List.setIfInBounds_toArray, List.set_cons_zero, List.set_cons_succ, i64_w, i32_w]
          rfl
        refine one_ (i := 8) (N := some 25) #[true, true, true, true, true, true, true, true, true, false] rfl rfl (by kernel_rfl) (by decide) (fun K hK => ?_)
        refine goes_ Try.func37 (by kernel_rfl) rfl #[.agg #[.int .i16 y.f0, .int .i8 y.f1, .int .i8 y.f2, .int .u8 y.f3, .int .i16 y.f4], .agg #[.int .i16 u.f0, .int .i8 u.f1, .int .i8 u.f2, .int .u8 u.f3, .int .i16 u.f4]] (by rfl) rfl rfl (by simp only [List.map_toArray, List.map_cons, List.map_nil]; rfl) ?_
        with_reducible refine (EqEntry.one y u _).mono ?_
        rintro e w3 ⟨rfl, hb⟩
        refine ⟨_, rfl, ?_⟩
        refine hK.out _ _ ⟨pw_cell_below hb (hHeld.1), pw_cell_below hb (hHeld.2.1), pw_cell_below hb (hHeld.2.2.1), pw_cell_below hb (hHeld.2.2.2.1), pw_cell_below hb (hHeld.2.2.2.2.1), pw_cell_below hb (hHeld.2.2.2.2.2.1), pw_cell_below hb (hHeld.2.2.2.2.2.2.1), pw_cell_below hb (hHeld.2.2.2.2.2.2.2.1), pw_cell_below hb (hHeld.2.2.2.2.2.2.2.2.1), pw_cell_below hb (hHeld.2.2.2.2.2.2.2.2.2)⟩ (fun hHeld => ?_)
        clear hK K; refine norm_ (a' := ?_) ?_ ?_; rotate_left
        · show Act.put _ (some 25) _ = _
          simp only [Act.put, List.setIfInBounds_toArray, List.set_cons_zero, List.set_cons_succ, i64_w, i32_w]
          rfl
        refine pure_ (i := 9) (N := some 26) (v := ?_) (a' := ?_) #[true, true, true, true, true, true, true, true, true, true] rfl rfl (by kernel_rfl) (fun _ _ _ h => h) (Or.inl ⟨by rfl, ?_⟩) ?_ ?_
        rotate_left
        · intro w'
          go_simp
          with_reducible rfl
        rotate_left
        · simp only [Act.put, List.setIfInBounds_toArray, List.set_cons_zero, List.set_cons_succ, i64_w, i32_w]
          rfl
        refine EqEntry.relet (F := fun w' => Below wr.heap.size wr w') (below_then (below_drew1 (Below.refl _ _)) (Nat.le_refl _) hb) ?_
        rintro w4 hb4
        clear hHeld hb; refine done_ (by kernel_rfl) ?_
        go_wp2
        go_ret
        refine ⟨ret_bool ?_, below_then HB.out HB.out.size hb4⟩
        rw [Hr.out]
        symm
        exact List.all_eq_false.2 ⟨kk, List.mem_range.2 hlt, by rw [← Hy.out, ← Hu.out, Hq.out]; simp⟩
      · have Hq := Lib.hid hq
        go_wp2
        refine start_ (n := 10) (S := fun w' => w'.cell? (ad.add (kk * 5)) = some (.int .i16 y.f0) ∧ w'.cell? ⟨(ad.add (kk * 5)).block, (ad.add (kk * 5)).off + 1, none⟩ = some (.int .i8 y.f1) ∧ w'.cell? ⟨(ad.add (kk * 5)).block, (ad.add (kk * 5)).off + 2, none⟩ = some (.int .i8 y.f2) ∧ w'.cell? ⟨(ad.add (kk * 5)).block, (ad.add (kk * 5)).off + 3, none⟩ = some (.int .u8 y.f3) ∧ w'.cell? ⟨(ad.add (kk * 5)).block, (ad.add (kk * 5)).off + 4, none⟩ = some (.int .i16 y.f4) ∧ w'.cell? (bd.add (kk * 5)) = some (.int .i16 u.f0) ∧ w'.cell? ⟨(bd.add (kk * 5)).block, (bd.add (kk * 5)).off + 1, none⟩ = some (.int .i8 u.f1) ∧ w'.cell? ⟨(bd.add (kk * 5)).block, (bd.add (kk * 5)).off + 2, none⟩ = some (.int .i8 u.f2) ∧ w'.cell? ⟨(bd.add (kk * 5)).block, (bd.add (kk * 5)).off + 3, none⟩ = some (.int .u8 u.f3) ∧ w'.cell? ⟨(bd.add (kk * 5)).block, (bd.add (kk * 5)).off + 4, none⟩ = some (.int .i16 u.f4)) (ds := []) #[false, false, false, false, false, false, false, false, false, false] (by kernel_rfl) rfl rfl ⟨x0, x1, x2, x3, x4, u0, u1, u2, u3, u4⟩ (fun hHeld => ?_)
        refine pure_ (i := 0) (N := some 17) (v := ?_) (a' := ?_) #[true, false, false, false, false, false, false, false, false, false] rfl rfl (by kernel_rfl) (fun _ _ _ h => h) (Or.inl ⟨by rfl, ?_⟩) ?_ ?_
        rotate_left
        · intro w'
          go_simp
          with_reducible rfl
        rotate_left
        · simp only [Act.put, List.setIfInBounds_toArray, List.set_cons_zero, List.set_cons_succ, i64_w, i32_w]
          rfl
        refine pure_ (i := 1) (N := some 18) (v := ?_) (a' := ?_) #[true, true, false, false, false, false, false, false, false, false] rfl rfl (by kernel_rfl) (fun _ _ _ h => h) (Or.inl ⟨by rfl, ?_⟩) ?_ ?_
        rotate_left
        · intro w'
          go_simp
          with_reducible rfl
        rotate_left
        · simp only [Act.put, List.setIfInBounds_toArray, List.set_cons_zero, List.set_cons_succ, i64_w, i32_w]
          rfl
        refine pure_ (i := 2) (N := some 19) (v := ?_) (a' := ?_) #[true, true, true, false, false, false, false, false, false, false] rfl rfl (by kernel_rfl) (fun _ _ _ h => h) (Or.inl ⟨by rfl, ?_⟩) ?_ ?_
        rotate_left
        · intro w'
          go_simp
          with_reducible rfl
        rotate_left
        · simp only [Act.put, List.setIfInBounds_toArray, List.set_cons_zero, List.set_cons_succ, i64_w, i32_w]
          rfl
        refine pure_ (i := 4) (N := some 21) (v := ?_) (a' := ?_) #[true, true, true, false, true, false, false, false, false, false] rfl rfl (by kernel_rfl) (fun _ _ _ h => h) (Or.inl ⟨by rfl, ?_⟩) ?_ ?_
        rotate_left
        · intro w'
          go_simp
          with_reducible rfl
        rotate_left
        · simp only [Act.put, List.setIfInBounds_toArray, List.set_cons_zero, List.set_cons_succ, i64_w, i32_w]
          rfl
        refine pure_ (i := 5) (N := some 22) (v := ?_) (a' := ?_) #[true, true, true, false, true, true, false, false, false, false] rfl rfl (by kernel_rfl) (fun _ _ _ h => h) (Or.inl ⟨by rfl, ?_⟩) ?_ ?_
        rotate_left
        · intro w'
          go_simp
          with_reducible rfl
        rotate_left
        · simp only [Act.put, List.setIfInBounds_toArray, List.set_cons_zero, List.set_cons_succ, i64_w, i32_w]
          rfl
        refine pure_ (i := 6) (N := some 23) (v := ?_) (a' := ?_) #[true, true, true, false, true, true, true, false, false, false] rfl rfl (by kernel_rfl) (fun _ _ _ h => h) (Or.inl ⟨by rfl, ?_⟩) ?_ ?_
        rotate_left
        · intro w'
          go_simp
          with_reducible rfl
        rotate_left
        · simp only [Act.put, List.setIfInBounds_toArray, List.set_cons_zero, List.set_cons_succ, i64_w, i32_w]
          rfl
        refine take_ (i := 3) (N := some 20) (v := ?_) (a' := ?_) #[true, true, true, true, true, true, true, false, false, false] rfl rfl (by kernel_rfl) (fun _ _ _ h => h) (Or.inl ⟨by rfl, ?_⟩) hHeld ?_ ?_
        rotate_left
        · rintro w' ⟨s0, s1, s2, s3, s4, s5, s6, s7, s8, s9⟩
          go_simp
          with_reducible rfl
        rotate_left
        · simp only [Act.put, List.setIfInBounds_toArray, List.set_cons_zero, List.set_cons_succ, i64_w, i32_w]
          rfl
        refine take_ (i := 7) (N := some 24) (v := ?_) (a' := ?_) #[true, true, true, true, true, true, true, true, false, false] rfl rfl (by kernel_rfl) (fun _ _ _ h => h) (Or.inl ⟨by rfl, ?_⟩) hHeld ?_ ?_
        rotate_left
        · rintro w' ⟨s0, s1, s2, s3, s4, s5, s6, s7, s8, s9⟩
          go_simp
          with_reducible rfl
        rotate_left
        · simp only [Act.put, List.setIfInBounds_toArray, List.set_cons_zero, List.set_cons_succ, i64_w, i32_w]
          rfl
        refine one_ (i := 8) (N := some 25) #[true, true, true, true, true, true, true, true, true, false] rfl rfl (by kernel_rfl) (by decide) (fun K hK => ?_)
        refine goes_ Try.func37 (by kernel_rfl) rfl #[.agg #[.int .i16 y.f0, .int .i8 y.f1, .int .i8 y.f2, .int .u8 y.f3, .int .i16 y.f4], .agg #[.int .i16 u.f0, .int .i8 u.f1, .int .i8 u.f2, .int .u8 u.f3, .int .i16 u.f4]] (by rfl) rfl rfl (by simp only [List.map_toArray, List.map_cons, List.map_nil]; rfl) ?_
        with_reducible refine (EqEntry.one y u _).mono ?_
        rintro e w3 ⟨rfl, hb⟩
        refine ⟨_, rfl, ?_⟩
        refine hK.out _ _ ⟨pw_cell_below hb (hHeld.1), pw_cell_below hb (hHeld.2.1), pw_cell_below hb (hHeld.2.2.1), pw_cell_below hb (hHeld.2.2.2.1), pw_cell_below hb (hHeld.2.2.2.2.1), pw_cell_below hb (hHeld.2.2.2.2.2.1), pw_cell_below hb (hHeld.2.2.2.2.2.2.1), pw_cell_below hb (hHeld.2.2.2.2.2.2.2.1), pw_cell_below hb (hHeld.2.2.2.2.2.2.2.2.1), pw_cell_below hb (hHeld.2.2.2.2.2.2.2.2.2)⟩ (fun hHeld => ?_)
        clear hK K; refine norm_ (a' := ?_) ?_ ?_; rotate_left
        · show Act.put _ (some 25) _ = _
          simp only [Act.put, List.setIfInBounds_toArray, List.set_cons_zero, List.set_cons_succ, i64_w, i32_w]
          rfl
        refine pure_ (i := 9) (N := some 26) (v := ?_) (a' := ?_) #[true, true, true, true, true, true, true, true, true, true] rfl rfl (by kernel_rfl) (fun _ _ _ h => h) (Or.inl ⟨by rfl, ?_⟩) ?_ ?_
        rotate_left
        · intro w'
          go_simp
          with_reducible rfl
        rotate_left
        · simp only [Act.put, List.setIfInBounds_toArray, List.set_cons_zero, List.set_cons_succ, i64_w, i32_w]
          rfl
        refine EqEntry.relet (F := fun w' => Below wr.heap.size wr w') (below_then (below_drew1 (Below.refl _ _)) (Nat.le_refl _) hb) ?_
        rintro w4 hb4
        clear hHeld hb; refine done_ (by kernel_rfl) ?_
        go_wp2
        go_roundg (l0.length - (kk + 1))
        case measure => omega
        case rel =>
          refine ⟨kk + 1, by omega, by omega, by go_num, ⟨below_then HB.out HB.out.size hb4⟩, ⟨fun j hj => ?_⟩⟩
          by_cases e : j = kk
          · rw [e, ← Hy.out, ← Hu.out]; exact Hq.out
          · exact HA.out j (by omega)
    · have hltz : ¬ (kk : Int) < (l0.length : Int) := by omega
      obtain rfl : kk = l0.length := by omega
      go_wp2
      go_ret
      refine ⟨ret_bool ?_, HB.out⟩
      rw [Hr.out]
      symm
      exact List.all_eq_true.2 fun j hj => HA.out j (List.mem_range.1 hj)
end Go.Proofs.Ytckcgfpbmojmoaa.G
