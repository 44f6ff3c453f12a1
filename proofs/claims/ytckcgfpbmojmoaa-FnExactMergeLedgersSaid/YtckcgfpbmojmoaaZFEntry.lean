import Derived.Test.YtckcgfpbmojmoaaZG0
import Derived.Test.YtckcgfpbmojmoaaZWk
import Derived.Test.YtckcgfpbmojmoaaZFIn
namespace Go.Proofs.Ytckcgfpbmojmoaa.G
open Go.RowKit Go.Proofs.YtckcgfpbmojmoaaW.PrintWords Go.Proofs.YtckcgfpbmojmoaaW.PrintLast Go.Proofs.YtckcgfpbmojmoaaW.PrintMore
attribute [local go_sem] max2_int min2_int max_two min_two max_three min_three max_four min_four
set_option linter.unusedVariables false
set_option linter.unusedSimpArgs false
open Go.Proofs.Ytckcgfpbmojmoaa.Wk
def entryB (p d f t wh n : Int) : Bool := inB p 1 6 && (inB (wrap64 f) 0 (wrap64 (p - 1)) && (inB (wrap64 t) 0 (wrap64 (p - 1)) && (inB (wrap64 d) 0 10000 && (inB (wrap64 n) 1 1000 && (decide (wh ≤ 4) && (decide (3 ≤ wh) == (f == t)))))))
set_option maxHeartbeats 4000000 in
theorem l06Entry_at (p : Int) (a : Addr) (d f t wh n : Int) (w : World) (h0 : w.cell? a = some (.int .i16 d)) (h1 : w.cell? ⟨a.block, a.off + 1, none⟩ = some (.int .i8 f)) (h2 : w.cell? ⟨a.block, a.off + 2, none⟩ = some (.int .i8 t))
    (h3 : w.cell? ⟨a.block, a.off + 3, none⟩ = some (.int .u8 wh)) (h4 : w.cell? ⟨a.block, a.off + 4, none⟩ = some (.int .i16 n)) :
    Calls Try.prog 58 #[.int .i64 p, .pointer (some a)] w fun e w' => e = .returned (.bool (entryB p d f t wh n)) ∧ ∃ q, w' = w.drewN q := by
  unfold entryB
  cases b0 : inB p 1 6
  · go_enter Try.func58, Try.ntmps58
    go_wp2_with (go_at_call 47; refine (l00In_any _ _ _ _).mono ?_; rintro e w' ⟨rfl, rfl⟩)
    go_ret
    exact ⟨by simp, 0, rfl⟩
  · cases b1 : inB (wrap64 f) 0 (wrap64 (p - 1))
    · go_enter Try.func58, Try.ntmps58
      go_wp2_with (go_at_call 47; refine (l00In_any _ _ _ _).mono ?_; rintro e w' ⟨rfl, rfl⟩)
      go_ret
      exact ⟨by simp, 0, rfl⟩
    · cases b2 : inB (wrap64 t) 0 (wrap64 (p - 1))
      · go_enter Try.func58, Try.ntmps58
        go_wp2_with (go_at_call 47; refine (l00In_any _ _ _ _).mono ?_; rintro e w' ⟨rfl, rfl⟩)
        go_ret
        exact ⟨by simp, 0, rfl⟩
      · cases b3 : inB (wrap64 d) 0 10000
        · go_enter Try.func58, Try.ntmps58
          go_wp2_with (go_at_call 47; refine (l00In_any _ _ _ _).mono ?_; rintro e w' ⟨rfl, rfl⟩)
          go_ret
          exact ⟨by simp, 0, rfl⟩
        · cases b4 : inB (wrap64 n) 1 1000
          · go_enter Try.func58, Try.ntmps58
            go_wp2_with (go_at_call 47; refine (l00In_any _ _ _ _).mono ?_; rintro e w' ⟨rfl, rfl⟩)
            go_ret
            exact ⟨by simp, 0, rfl⟩
          · by_cases b5 : wh ≤ 4
            · go_enter Try.func58, Try.ntmps58
              go_wp2_with (go_at_call 47; refine (l00In_any _ _ _ _).mono ?_; rintro e w' ⟨rfl, rfl⟩)
              go_quiet (fail)
              go_wp2
              go_ret
              exact ⟨ret_bool (by simp [b5]), _, rfl⟩
            · go_enter Try.func58, Try.ntmps58
              go_wp2_with (go_at_call 47; refine (l00In_any _ _ _ _).mono ?_; rintro e w' ⟨rfl, rfl⟩)
              go_ret
              exact ⟨ret_bool (by simp; omega), 0, rfl⟩
def okAt (p : Int) (l : List S40) (j : Nat) : Bool :=
  entryB p (l.getD j z40).f0 (l.getD j z40).f1 (l.getD j z40).f2 (l.getD j z40).f3 (l.getD j z40).f4 && !(decide (0 < j) && decide ((l.getD j z40).f0 < (l.getD (j - 1) z40).f0))
def ledgerB (p : Int) (l : List S40) : Bool := (List.range l.length).all (okAt p l) && (decide (l.length ≤ 80) && inB p 1 6)
def spec_l06Ledger.f (a0 : Int) (l1 : List S40) : Option Bool := some (ledgerB a0 l1)
theorem ledgerB_yes {p : Int} {l : List S40} (h : ∀ j : Nat, j < l.length → okAt p l j = true) : ledgerB p l = (decide (l.length ≤ 80) && inB p 1 6) := by
  unfold ledgerB
  rw [List.all_eq_true.2 (fun j hj => h j (List.mem_range.1 hj))]
  rfl
theorem ledgerB_no {p : Int} {l : List S40} {j : Nat} (hj : j < l.length) (h : okAt p l j = false) : ledgerB p l = false := by
  unfold ledgerB
  rw [show (List.range l.length).all (okAt p l) = false from List.all_eq_false.2 ⟨j, List.mem_range.2 hj, by simp [h]⟩]
  rfl
set_option maxHeartbeats 4000000 in
theorem spec_l06Ledger.calls (a0 : Int) (A1 : Option Addr) (c1 : Nat) (l1 : List S40) (r : Bool) (w : World) (hr1 : Kd.C k40 w A1 l1.length l1) (hc1 : l1.length ≤ c1) (h : spec_l06Ledger.f a0 l1 = some r) :
    Calls Try.prog 30 #[.int .i64 a0, .slice A1 l1.length c1] w fun e w' => e = .returned (.bool r) ∧ Below w.heap.size w w' := by
  obtain rfl := Option.some.inj h
  clear h; have hbig : l1.length ≤ 9223372036854775807 := hr1.2.1
  have HR := Aside0.mk hr1; clear hr1; go_enter Try.func30, Try.ntmps30
  go_wp2
  go_loopw [5] (fun i wr => ∃ kk : Nat, kk ≤ l1.length ∧ i = .int .i64 kk ∧ Aside0 (Below w.heap.size w wr) ∧ Aside0 (∀ j : Nat, j < kk → okAt a0 l1 j = true)) (fun i _ => l1.length - (intOf i).toNat)
  case atStart => exact ⟨0, Nat.zero_le _, rfl, ⟨Below.refl _ _⟩, ⟨fun j hj => absurd hj (Nat.not_lt_zero _)⟩⟩
  case round =>
    obtain ⟨kk, hk, rfl, HB, HA⟩ := hrel
    by_cases hlt : kk < l1.length
    · have hlt' : (kk : Int) < (l1.length : Int) := by omega
      obtain ⟨ad, rfl, x0, x1, x2, x3, x4⟩ := at_T40 HR.out kk (by omega) (by omega)
      rw [Int.toNat_natCast] at x0 x1 x2 x3 x4
      have hy : rd_T40 l1 (kk : Int) = l1.getD kk z40 := rfl
      rw [hy] at x0 x1 x2 x3 x4
      clear hy; replace x0 := pw_cell_below HB.out x0
      replace x1 := pw_cell_below HB.out x1
      replace x2 := pw_cell_below HB.out x2
      replace x3 := pw_cell_below HB.out x3
      replace x4 := pw_cell_below HB.out x4
      have hok : okAt a0 l1 kk = (entryB a0 (l1.getD kk z40).f0 (l1.getD kk z40).f1 (l1.getD kk z40).f2 (l1.getD kk z40).f3 (l1.getD kk z40).f4 && !(decide (0 < kk) && decide ((l1.getD kk z40).f0 < (l1.getD (kk - 1) z40).f0))) := rfl
      generalize l1.getD kk z40 = y at x0 x1 x2 x3 x4 hok
      have hcon := fun W hW0 hW1 hW2 hW3 hW4 => l06Entry_at a0 (ad.add (kk * 5)) y.f0 y.f1 y.f2 y.f3 y.f4 W hW0 hW1 hW2 hW3 hW4
      generalize hv : entryB a0 y.f0 y.f1 y.f2 y.f3 y.f4 = v at hcon hok
      clear hv; have Hcon := Lib.hid hcon
      clear hcon; cases v
      · have Hok := Lib.hid hok
        clear hok; go_wp2
        go_quiet ((go_at_call 58; exact Calls.quiet_of (Hcon.out (World.drewN wr _) x0 x1 x2 x3 x4)))
        go_wp2
        go_ret
        refine ⟨ret_bool ?_, pw_below_drewN HB.out _⟩
        rw [ledgerB_no hlt (by rw [Hok.out]; rfl)]
      · by_cases h0 : 0 < kk
        · obtain ⟨ad', e', z0, _, _, _, _⟩ := at_T40 HR.out ((kk - 1 : Nat) : Int) (by omega) (by omega)
          obtain rfl := Option.some.inj e'
          rw [Int.toNat_natCast] at z0
          have hy : rd_T40 l1 ((kk - 1 : Nat) : Int) = l1.getD (kk - 1) z40 := rfl
          rw [hy] at z0
          clear hy; replace z0 := pw_cell_below HB.out z0
          generalize l1.getD (kk - 1) z40 = u at z0 hok
          by_cases hd : y.f0 < u.f0
          · have Hok := Lib.hid hok
            clear hok; have hs : decide (0 < kk) = true := by simpa using h0
            have hs2 : decide (0 < (kk : Int)) = true := by simp; omega
            go_wp2
            go_quiet ((go_at_call 58; exact Calls.quiet_of (Hcon.out (World.drewN wr _) x0 x1 x2 x3 x4)))
            go_wp2
            go_ret
            refine ⟨ret_bool ?_, pw_below_drewN HB.out _⟩
            rw [ledgerB_no hlt (by rw [Hok.out]; simp [h0, hd])]
          · have Hok := Lib.hid hok
            clear hok; have hs : decide (0 < kk) = true := by simpa using h0
            have hs2 : decide (0 < (kk : Int)) = true := by simp; omega
            go_wp2
            go_quiet ((go_at_call 58; exact Calls.quiet_of (Hcon.out (World.drewN wr _) x0 x1 x2 x3 x4)))
            go_wp2
            go_roundw
            case rel =>
              refine ⟨kk + 1, by omega, by go_num, ⟨pw_below_drewN HB.out _⟩, ⟨fun j hj => ?_⟩⟩
              by_cases e : j = kk
              · rw [e, Hok.out]; simp [hd]
              · exact HA.out j (by omega)
            case measure => simp [intOf]; omega
        · have Hok := Lib.hid hok
          clear hok; obtain rfl : kk = 0 := by omega
          go_wp2
          go_quiet ((go_at_call 58; exact Calls.quiet_of (Hcon.out (World.drewN wr _) x0 x1 x2 x3 x4)))
          go_wp2
          go_roundw
          case rel =>
            refine ⟨0 + 1, by omega, by go_num, ⟨pw_below_drewN HB.out _⟩, ⟨fun j hj => ?_⟩⟩
            by_cases e : j = 0
            · rw [e, Hok.out]; simp
            · exact HA.out j (by omega)
          case measure => simp [intOf]; omega
    · have : kk = l1.length := by omega
      subst this; have Hv := Lib.hid (ledgerB_yes HA.out)
      by_cases h80 : l1.length ≤ 80
      · have hd : decide ((l1.length : Int) ≤ 80) = true := by simp; omega
        cases hp : inB a0 1 6
        · go_wp2_with (go_at_call 47; refine (l00In_any _ _ _ _).mono ?_; rintro e w' ⟨rfl, rfl⟩)
          go_ret
          exact ⟨ret_bool (by rw [Hv.out, hp]; simp), HB.out⟩
        · go_wp2_with (go_at_call 47; refine (l00In_any _ _ _ _).mono ?_; rintro e w' ⟨rfl, rfl⟩)
          go_ret
          exact ⟨ret_bool (by rw [Hv.out, hp]; simp [h80]), HB.out⟩
      · have hd : decide ((l1.length : Int) ≤ 80) = false := by simp; omega
        go_wp2_with (go_at_call 47; refine (l00In_any _ _ _ _).mono ?_; rintro e w' ⟨rfl, rfl⟩)
        go_ret
        exact ⟨ret_bool (by rw [Hv.out]; simp [h80]), HB.out⟩
end Go.Proofs.Ytckcgfpbmojmoaa.G
