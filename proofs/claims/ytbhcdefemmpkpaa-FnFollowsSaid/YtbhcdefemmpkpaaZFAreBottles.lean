import Derived.Test.YtbhcdefemmpkpaaZG0
import Derived.Test.YtbhcdefemmpkpaaZWk
import Derived.Test.YtbhcdefemmpkpaaZFContBottle
import Derived.Test.YtbhcdefemmpkpaaZPl
namespace Go.Proofs.Ytbhcdefemmpkpaa.G
open Go.RowKit Go.Proofs.YtbhcdefemmpkpaaW.PrintWords Go.Proofs.YtbhcdefemmpkpaaW.PrintLast Go.Proofs.YtbhcdefemmpkpaaW.PrintMore
attribute [local go_sem] max2_int min2_int max_two min_two max_three min_three max_four min_four
set_option linter.unusedVariables false
set_option linter.unusedSimpArgs false
open Go.Proofs.Ytbhcdefemmpkpaa.Wk Go.Proofs.Ytbhcdefemmpkpaa.Pl
namespace Bt
theorem within (x lo hi : Int) (w : World) : Calls Try.prog 58 #[.int .i64 x, .int .i64 lo, .int .i64 hi] w fun e w' => e = .returned (.bool (inB x lo hi)) ∧ w = w' := by
  by_cases h1 : lo ≤ x
  · by_cases h2 : x ≤ hi
    · rw [inB_yes h1 h2]
      go_enter Try.func58, Try.ntmps58
      go_wp2
      go_ret
      exact ⟨by simp [*], rfl⟩
    · rw [inB_high h2]
      go_enter Try.func58, Try.ntmps58
      go_wp2
      go_ret
      exact ⟨by simp [*], rfl⟩
  · rw [inB_low h1]
    go_enter Try.func58, Try.ntmps58
    go_wp2
    go_ret
    exact ⟨rfl, rfl⟩
end Bt
def bottleB (f0 f1 : Int) : Bool := inB (wrap64 f0) 1 20 && inB (wrap64 f1) 1900 2099
def bB (x : S44) : Bool := bottleB x.f0 x.f1
set_option maxHeartbeats 1000000 in
set_option maxRecDepth 100000 in
theorem validBottle (f0 f1 : Int) (w : World) : Calls Try.prog 100 #[.agg #[.int .u8 f0, .int .i16 f1]] w fun e w' => e = .returned (.bool (bottleB f0 f1)) ∧ Below w.heap.size w w' := by
  unfold bottleB
  have h1 := fun W => Bt.within (wrap64 f0) 1 20 W
  have h2 := fun W => Bt.within (wrap64 f1) 1900 2099 W
  generalize inB (wrap64 f0) 1 20 = b1 at h1 ⊢
  generalize inB (wrap64 f1) 1900 2099 = b2 at h2 ⊢
  have H1 := Lib.hid h1
  have H2 := Lib.hid h2
  clear h1 h2; cases b1
  · go_enter Try.func100, Try.ntmps100
    go_wp2_with (first | (go_at_call 58; (with_reducible refine (H1.out _).mono ?_); rintro e w' ⟨rfl, rfl⟩))
    go_ret
    exact ⟨ret_bool (by simp), (Below.refl _ _).alloc (Nat.le_refl _) _⟩
  · go_enter Try.func100, Try.ntmps100
    go_wp2_with (first | (go_at_call 58; (with_reducible refine (H1.out _).mono ?_); rintro e w' ⟨rfl, rfl⟩) | (go_at_call 58; (with_reducible refine (H2.out _).mono ?_); rintro e w' ⟨rfl, rfl⟩))
    go_ret
    exact ⟨ret_bool (by simp), (Below.refl _ _).alloc (Nat.le_refl _) _⟩
set_option maxHeartbeats 1000000 in
set_option maxRecDepth 100000 in
theorem areBottles_1 (f0 f1 : Int) (w : World) : Calls Try.prog 99 #[.agg #[.int .u8 f0, .int .i16 f1]] w fun e w' => e = .returned (.bool (!(bottleB f0 f1))) ∧ Below w.heap.size w w' := by
  have hcon := fun W => validBottle f0 f1 W
  generalize bottleB f0 f1 = b at hcon ⊢
  have Hcon := Lib.hid hcon
  clear hcon; go_enter Try.func99, Try.ntmps99
  go_wp2_with (go_at_call 100; refine (Hcon.out _).mono ?_; rintro e w' ⟨rfl, hb1⟩)
  go_ret
  exact ⟨ret_bool (by simp), below_then ((Below.refl _ _).alloc (Nat.le_refl _) _) (by simp) hb1⟩
def bcell (h : S44) : Nat → Value
  | 0 => .int .u8 h.f0
  | _ => .int .i16 h.f1
def impl_areBottles.f (l0 : List S44) : Option Bool := some (l0.all bB)
set_option maxHeartbeats 1000000 in
set_option maxRecDepth 100000 in
theorem impl_areBottles.calls (A0 : Option Addr) (c0 : Nat) (l0 : List S44) (r : Bool) (w : World) (hr0 : Kd.C k44 w A0 l0.length l0) (hc0 : l0.length ≤ c0) (h : impl_areBottles.f l0 = some r) :
    Calls Try.prog 70 #[.slice A0 l0.length c0] w fun e w' => e = .returned (.bool r) ∧ Below w.heap.size w w' := by
  obtain rfl := Option.some.inj h
  clear h; have eg : ∀ args w, (callFunc 99 args).run Try.prog w = .ok (.enter 99 args) w := enters_of Try.func99 (by kernel_rfl) rfl
  have hcon := ContBottle.containsFunc A0 l0.length c0 (fun j => bcell (l0.getD j z44)) (fun j => !(bB (l0.getD j z44))) 99 #[] w eg hr0.2.1
    (fun hn => by
      obtain ⟨ad, e, _⟩ := at_T44 hr0 0 (by omega) (by omega)
      refine ⟨ad, e, fun j hj => ?_⟩
      obtain ⟨ad', e', x⟩ := at_T44 hr0 j (by omega) (by omega)
      obtain rfl := Option.some.inj (e.symm.trans e')
      rw [Int.toNat_natCast] at x
      exact x)
    (fun j hj W hW => areBottles_1 _ _ W)
  rw [any_not_all l0 z44 bB] at hcon
  generalize l0.all bB = b at hcon ⊢
  clear eg hr0 hc0; go_enter Try.func70, Try.ntmps70
  go_wp2_with (go_at_call 98; refine hcon.mono ?_; rintro e w' ⟨rfl, hb1⟩)
  go_ret
  exact ⟨ret_bool (by simp), hb1⟩
end Go.Proofs.Ytbhcdefemmpkpaa.G
