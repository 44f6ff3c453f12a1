import Derived.Test.YtbhcdefemmpkpaaZG0
import Derived.Test.YtbhcdefemmpkpaaZWk
import Derived.Test.YtbhcdefemmpkpaaZPl
import Derived.Test.YtbhcdefemmpkpaaZFLibI64
import Derived.BigQuiet
import Derived.Test.YtbhcdefemmpkpaaZG2
namespace Go.Proofs.Ytbhcdefemmpkpaa.G
open Go.RowKit Go.Proofs.YtbhcdefemmpkpaaW.PrintWords Go.Proofs.YtbhcdefemmpkpaaW.PrintLast Go.Proofs.YtbhcdefemmpkpaaW.PrintMore
attribute [local go_sem] max2_int min2_int max_two min_two max_three min_three max_four min_four
set_option linter.unusedVariables false
set_option linter.unusedSimpArgs false
open Go.Proofs.Ytbhcdefemmpkpaa.Wk Go.Proofs.Ytbhcdefemmpkpaa.Pl
theorem within_any2 (x lo hi : Int) (w : World) : Calls Try.prog 58 #[.int .i64 x, .int .i64 lo, .int .i64 hi] w fun e w' => e = .returned (.bool (inB x lo hi)) ∧ Drawn0 w w' :=
  impl_within.calls x lo hi _ w (within_tells2 ..)
theorem l00In_any2 (x lo hi : Int) (w : World) : Calls Try.prog 63 #[.int .i64 x, .int .i64 lo, .int .i64 hi] w fun e w' => e = .returned (.bool (inB x lo hi)) ∧ Drawn0 w w' :=
  spec_l00In.calls x lo hi _ w (l00In_tells2 ..)
theorem contains_any (A : Option Addr) (c : Nat) (l : List Int) (x : Int) (w : World) (hr : Kd.C (Kd.int .i64) w A l.length l) (hc : l.length ≤ c) (hl : l.length ≤ 1099511627776) :
    Calls Try.prog 59 #[.slice A l.length c, .int .i64 x] w fun e w' => e = .returned (.bool (l.contains x)) ∧ Drawn0 w w' := by
  obtain ⟨k, hk⟩ := (contains_tells l x hl).rounds
  exact slices_Contains_int64_int64.calls k A c l x _ w hr hc hk
theorem has_any (A : Option Addr) (c : Nat) (l : List Int) (x : Int) (w : World) (hr : Kd.C (Kd.int .i64) w A l.length l) (hc : l.length ≤ c) (hl : l.length ≤ 1099511627776) :
    Calls Try.prog 66 #[.slice A l.length c, .int .i64 x] w fun e w' => e = .returned (.bool (l.contains x)) ∧ Drawn0 w w' := by
  obtain ⟨k, hk⟩ := (has_tells l x hl).rounds
  exact spec_l00Has.calls k A c l x _ w hr hc hk
theorem samples_any (x : Int) (w : World) : Calls Try.prog 48 #[.int .i64 x] w fun e w' => e = .returned (.bool (inB x 1 8)) ∧ Drawn0 w w' :=
  impl_areSamples.calls x _ w (by unfold impl_areSamples.f; rw [within_tells2]; rfl)
def ordAt (s : Int) (l : List Int) (i : Nat) : Bool := inB (l.getD i 0) 0 (wrap64 (s - 1)) && !((l.take i).contains (l.getD i 0))
theorem orderB_yes {s : Int} {l : List Int} (h : ∀ j : Nat, j < l.length → ordAt s l j = true) : orderB s l = true := List.all_eq_true.2 fun j hj => h j (List.mem_range.1 hj)
theorem orderB_no {s : Int} {l : List Int} {j : Nat} (hj : j < l.length) (h : ordAt s l j = false) : orderB s l = false := List.all_eq_false.2 ⟨j, List.mem_range.2 hj, by rw [show (inB (l.getD j 0) 0 (wrap64 (s - 1)) && !((l.take j).contains (l.getD j 0))) = false from h]; simp⟩
def impl_IsOrder.f (a0 : Int) (l1 : List Int) : Option Bool := if l1.length ≤ 1099511627776 then some (inB a0 1 8 && (decide ((l1.length : Int) = a0) && orderB a0 l1)) else none
set_option maxHeartbeats 4000000 in
theorem impl_IsOrder.calls (a0 : Int) (A1 : Option Addr) (c1 : Nat) (l1 : List Int) (r : Bool) (w : World) (hr1 : Kd.C (Kd.int .i64) w A1 l1.length l1) (hc1 : l1.length ≤ c1) (h : impl_IsOrder.f a0 l1 = some r) :
    Calls Try.prog 15 #[.int .i64 a0, .slice A1 l1.length c1] w fun e w' => e = .returned (.bool r) ∧ Below w.heap.size w w' := by
  unfold impl_IsOrder.f at h
  by_cases hlim : l1.length ≤ 1099511627776
  · rw [if_pos hlim] at h
    obtain rfl := Option.some.inj h
    clear h; have HC := Aside0.mk hr1; have hcells := Aside0.mk (C_int_cells hr1)
    clear hr1; go_enter Try.func15, Try.ntmps15
    go_wp2
    go_loopw [5, 6, 9] (fun _ _ i wr => ∃ kk : Nat, kk ≤ l1.length ∧ i = .int .i64 kk ∧ Aside0 (Below w.heap.size w wr) ∧ Aside0 (∀ j : Nat, j < kk → ordAt a0 l1 j = true)) (fun _ _ i _ => l1.length - (intOf i).toNat)
    case atStart => exact ⟨0, Nat.zero_le _, rfl, ⟨Below.refl _ _⟩, ⟨fun j hj => absurd hj (Nat.not_lt_zero _)⟩⟩
    case round =>
      obtain ⟨kk, hk, rfl, HB, HA⟩ := hrel
      by_cases hlt : kk < l1.length
      · have hlt' : (kk : Int) < (l1.length : Int) := by omega
        obtain ⟨ad, rfl, hx⟩ := hcells.out (by omega)
        have x0 := pw_cell_below HB.out (hx kk hlt)
        clear hx; have hT := C_take (m := kk) HC.out (by omega)
        have hTl : (l1.take kk).length = kk := by rw [List.length_take]; omega
        have hok : ordAt a0 l1 kk = (inB (l1.getD kk 0) 0 (wrap64 (a0 - 1)) && !((l1.take kk).contains (l1.getD kk 0))) := rfl
        generalize l1.getD kk 0 = y at x0 hok
        have hcon := fun (W : World) (hW : Below w.heap.size w W) => contains_any (some ad) c1 (l1.take kk) y W (Kd.C_below hT hW) (by omega) (by omega)
        rw [hTl] at hcon
        generalize (l1.take kk).contains y = b at hcon hok
        have Hcon := Lib.hid hcon
        clear hcon hT hTl; cases hq : inB y 0 (wrap64 (a0 - 1))
        · rw [hq] at hok
          have Hok := Lib.hid hok
          clear hok; go_wp2_with (first | (go_at_call 58; refine (within_any2 _ _ _ _).mono ?_; rintro e w' ⟨rfl, ⟨n, rfl⟩⟩))
          go_ret
          refine ⟨ret_bool ?_, pw_below_drewN HB.out _⟩
          rw [orderB_no hlt (by rw [Hok.out]; rfl)]
          simp
        · rw [hq] at hok
          cases b
          · have Hok := Lib.hid hok
            clear hok; go_wp2_with (first | (go_at_call 58; refine (within_any2 _ _ _ _).mono ?_; rintro e w' ⟨rfl, ⟨n, rfl⟩⟩) | (go_at_call 59; refine (Hcon.out _ (pw_below_drewN HB.out _)).mono ?_; rintro e w' ⟨rfl, ⟨n2, rfl⟩⟩))
            go_roundw
            case rel =>
              refine ⟨kk + 1, by omega, by go_num, ⟨by repeat (first | exact HB.out | apply pw_below_drewN)⟩, ⟨fun j hj => ?_⟩⟩
              by_cases e : j = kk
              · rw [e, Hok.out]; rfl
              · exact HA.out j (by omega)
            case measure => simp [intOf]; omega
          · have Hok := Lib.hid hok
            clear hok; go_wp2_with (first | (go_at_call 58; refine (within_any2 _ _ _ _).mono ?_; rintro e w' ⟨rfl, ⟨n, rfl⟩⟩) | (go_at_call 59; refine (Hcon.out _ (pw_below_drewN HB.out _)).mono ?_; rintro e w' ⟨rfl, ⟨n2, rfl⟩⟩))
            go_ret
            refine ⟨ret_bool ?_, by repeat (first | exact HB.out | apply pw_below_drewN)⟩
            rw [orderB_no hlt (by rw [Hok.out]; rfl)]
            simp
      · have : kk = l1.length := by omega
        subst this; have Hv := Lib.hid (orderB_yes HA.out)
        cases hs : inB a0 1 8
        · go_wp2_with (go_at_call 48; refine (samples_any _ _).mono ?_; rintro e w' ⟨rfl, ⟨n, rfl⟩⟩)
          go_ret
          exact ⟨ret_bool (by simp [hs]), pw_below_drewN HB.out _⟩
        · go_wp2_with (go_at_call 48; refine (samples_any _ _).mono ?_; rintro e w' ⟨rfl, ⟨n, rfl⟩⟩)
          go_ret
          refine ⟨ret_bool ?_, pw_below_drewN HB.out _⟩
          rw [Hv.out, hs, Bool.eq_iff_iff]
          simp
  · rw [if_neg hlim] at h
    cases h
def spec_l07Order.f (a0 : Int) (l1 : List Int) : Option Bool := if l1.length ≤ 1099511627776 then some (decide ((l1.length : Int) = a0) && orderB a0 l1) else none
set_option maxHeartbeats 4000000 in
theorem spec_l07Order.calls (a0 : Int) (A1 : Option Addr) (c1 : Nat) (l1 : List Int) (r : Bool) (w : World) (hr1 : Kd.C (Kd.int .i64) w A1 l1.length l1) (hc1 : l1.length ≤ c1) (h : spec_l07Order.f a0 l1 = some r) :
    Calls Try.prog 55 #[.int .i64 a0, .slice A1 l1.length c1] w fun e w' => e = .returned (.bool r) ∧ Below w.heap.size w w' := by
  unfold spec_l07Order.f at h
  by_cases hlim : l1.length ≤ 1099511627776
  · rw [if_pos hlim] at h
    obtain rfl := Option.some.inj h
    clear h; have HC := Aside0.mk hr1; have hcells := Aside0.mk (C_int_cells hr1)
    clear hr1; by_cases hs : (l1.length : Int) = a0
    · have e1 : ((l1.length : Int) == a0) = true := by simpa using hs
      have e2 : ((l1.length : Int) != a0) = false := by simpa using hs
      have Hs := Lib.hid hs
      clear hs; go_enter Try.func55, Try.ntmps55
      go_wp2
      go_loopw [5] (fun i wr => ∃ kk : Nat, kk ≤ l1.length ∧ i = .int .i64 kk ∧ Aside0 (Below w.heap.size w wr) ∧ Aside0 (∀ j : Nat, j < kk → ordAt a0 l1 j = true)) (fun i _ => l1.length - (intOf i).toNat)
      case atStart => exact ⟨0, Nat.zero_le _, rfl, ⟨Below.refl _ _⟩, ⟨fun j hj => absurd hj (Nat.not_lt_zero _)⟩⟩
      case round =>
        obtain ⟨kk, hk, rfl, HB, HA⟩ := hrel
        by_cases hlt : kk < l1.length
        · have hlt' : (kk : Int) < (l1.length : Int) := by omega
          obtain ⟨ad, rfl, hx⟩ := hcells.out (by omega)
          have x0 := pw_cell_below HB.out (hx kk hlt)
          clear hx; have hT := C_take (m := kk) HC.out (by omega)
          have hTl : (l1.take kk).length = kk := by rw [List.length_take]; omega
          have hok : ordAt a0 l1 kk = (inB (l1.getD kk 0) 0 (wrap64 (a0 - 1)) && !((l1.take kk).contains (l1.getD kk 0))) := rfl
          generalize l1.getD kk 0 = y at x0 hok
          have hcon := fun (W : World) (hW : Below w.heap.size w W) => has_any (some ad) c1 (l1.take kk) y W (Kd.C_below hT hW) (by omega) (by omega)
          rw [hTl] at hcon
          generalize (l1.take kk).contains y = b at hcon hok
          have Hcon := Lib.hid hcon
          have Hin := Lib.hid (fun W => l00In_any2 y 0 (wrap64 (a0 - 1)) W)
          clear hcon hT hTl; cases hq : inB y 0 (wrap64 (a0 - 1))
          · rw [hq] at hok Hin
            have Hok := Lib.hid hok
            clear hok; go_wp2
            go_quiet ((go_at_call 63; exact Calls.quiet_of ((Hin.out (World.drewN wr _)).mono fun e W ⟨he, hW⟩ => ⟨he, hW.out⟩)))
            go_wp2
            go_ret
            refine ⟨ret_bool ?_, pw_below_drewN HB.out _⟩
            rw [orderB_no hlt (by rw [Hok.out]; rfl)]
            simp
          · rw [hq] at hok Hin
            cases b
            · have Hok := Lib.hid hok
              clear hok; go_wp2
              go_quiet (first | (go_at_call 63; exact Calls.quiet_of ((Hin.out (World.drewN wr _)).mono fun e W ⟨he, hW⟩ => ⟨he, hW.out⟩)) | (go_at_call 66; exact Calls.quiet_of ((Hcon.out (World.drewN wr _) (pw_below_drewN HB.out _)).mono fun e W ⟨he, hW⟩ => ⟨he, hW.out⟩)))
              go_wp2
              go_roundw
              case rel =>
                refine ⟨kk + 1, by omega, by go_num, ⟨pw_below_drewN HB.out _⟩, ⟨fun j hj => ?_⟩⟩
                by_cases e : j = kk
                · rw [e, Hok.out]; rfl
                · exact HA.out j (by omega)
              case measure => simp [intOf]; omega
            · have Hok := Lib.hid hok
              clear hok; go_wp2
              go_quiet (first | (go_at_call 63; exact Calls.quiet_of ((Hin.out (World.drewN wr _)).mono fun e W ⟨he, hW⟩ => ⟨he, hW.out⟩)) | (go_at_call 66; exact Calls.quiet_of ((Hcon.out (World.drewN wr _) (pw_below_drewN HB.out _)).mono fun e W ⟨he, hW⟩ => ⟨he, hW.out⟩)))
              go_wp2
              go_ret
              refine ⟨ret_bool ?_, pw_below_drewN HB.out _⟩
              rw [orderB_no hlt (by rw [Hok.out]; rfl)]
              simp
        · have : kk = l1.length := by omega
          subst this; have Hv := Lib.hid (orderB_yes HA.out)
          go_wp2
          go_ret
          refine ⟨ret_bool ?_, HB.out⟩
          rw [Hv.out]
          simp [Hs.out]
    · have e1 : ((l1.length : Int) == a0) = false := by simpa using hs
      have e2 : ((l1.length : Int) != a0) = true := by simpa using hs
      go_enter Try.func55, Try.ntmps55
      go_wp2
      go_ret
      exact ⟨ret_bool (by simp [hs]), Below.refl _ _⟩
  · rw [if_neg hlim] at h
    cases h
end Go.Proofs.Ytbhcdefemmpkpaa.G
