/- impl.areHeld, by its closure and slices.ContainsFunc. -/
import Derived.Test.YtncbgnlojabpfaaG0
import Derived.Test.YtncbgnlojabpfaaWk
import Derived.Test.YtncbgnlojabpfaaFHeld
import Derived.Test.YtncbgnlojabpfaaFContHold
import Derived.Test.YtncbgnlojabpfaaG3
namespace Go.Proofs.Ytncbgnlojabpfaa.G
open Go.RowKit Go.Proofs.YtncbgnlojabpfaaW.PrintWords Go.Proofs.YtncbgnlojabpfaaW.PrintLast Go.Proofs.YtncbgnlojabpfaaW.PrintMore
attribute [local go_sem] max2_int min2_int max_two min_two max_three min_three max_four min_four   -- for this text's walks alone
set_option linter.unusedVariables false
set_option linter.unusedSimpArgs false

open Go.Proofs.Ytncbgnlojabpfaa.Wk

theorem within_tells (x lo hi : Int) : impl_within.f x lo hi = some (inB x lo hi) := by
  unfold impl_within.f inB
  by_cases h : lo ≤ x <;> simp [h]
theorem isHeld_tells (f0 f1 f2 f3 f4 : Int) : impl_isHeld.f f0 f1 f2 f3 f4 = some (heldB f0 f1 f2 f3 f4) := by
  unfold impl_isHeld.f impl_allWithin.f heldB
  rw [show allB [f0, f1, f2, f3] 0 1000000 = (inB f0 0 1000000 && inB f1 0 1000000 && inB f2 0 1000000 && inB f3 0 1000000) by simp [allB, Bool.and_assoc]]
  generalize (inB f0 0 1000000 && inB f1 0 1000000 && inB f2 0 1000000 && inB f3 0 1000000) = b
  rw [within_tells]
  cases b <;> rfl

set_option maxHeartbeats 1000000 in
theorem areHeld_1 (f0 f1 f2 f3 f4 : Int) (w : World) : Calls Try.prog 78 #[.agg #[.int .i64 f0, .int .i64 f1, .int .i64 f2, .int .i64 f3, .int .i64 f4]] w fun e w' => e = .returned (.bool (!(heldB f0 f1 f2 f3 f4))) ∧ Below w.heap.size w w' := by
  have hcon := fun W => impl_isHeld.calls f0 f1 f2 f3 f4 (heldB f0 f1 f2 f3 f4) W (isHeld_tells ..)
  generalize heldB f0 f1 f2 f3 f4 = b at hcon ⊢
  have Hcon := Lib.hid hcon
  clear hcon
  go_enter Try.func78, Try.ntmps78
  go_wp2_with (go_at_call 79; refine (Hcon.out _).mono ?_; rintro e w' ⟨rfl, hb1⟩)
  go_ret
  exact ⟨rfl, below_then ((Below.refl _ _).alloc (Nat.le_refl _) _) (by simp) hb1⟩

def hcell (h : S71) : Nat → Value
  | 0 => .int .i64 h.f0
  | 1 => .int .i64 h.f1
  | 2 => .int .i64 h.f2
  | 3 => .int .i64 h.f3
  | _ => .int .i64 h.f4

def impl_areHeld.f (l0 : List S71) : Option Bool := some (l0.all hB)
set_option maxHeartbeats 1000000 in
theorem impl_areHeld.calls (A0 : Option Addr) (c0 : Nat) (l0 : List S71) (r : Bool) (w : World) (hr0 : Kd.C k71 w A0 l0.length l0) (hc0 : l0.length ≤ c0) (h : impl_areHeld.f l0 = some r) :
    Calls Try.prog 45 #[.slice A0 l0.length c0] w fun e w' => e = .returned (.bool r) ∧ Below w.heap.size w w' := by
  obtain rfl := Option.some.inj h
  clear h
  have eg : ∀ args w, (callFunc 78 args).run Try.prog w = .ok (.enter 78 args) w := enters_of Try.func78 (by kernel_rfl) rfl
  have hcon := ContHold.containsFunc A0 l0.length c0 (fun j => hcell (l0.getD j z71)) (fun j => !(hB (l0.getD j z71))) 78 #[] w eg hr0.2.1
    (fun hn => by
      obtain ⟨ad, e, _⟩ := at_T71 hr0 0 (by omega) (by omega)
      refine ⟨ad, e, fun j hj => ?_⟩
      obtain ⟨ad', e', x⟩ := at_T71 hr0 j (by omega) (by omega)
      obtain rfl := Option.some.inj (e.symm.trans e')
      rw [Int.toNat_natCast] at x
      exact x)
    (fun j hj W hW => areHeld_1 _ _ _ _ _ W)
  rw [any_not_all l0 z71 hB] at hcon
  generalize l0.all hB = b at hcon ⊢
  clear eg hr0 hc0
  go_enter Try.func45, Try.ntmps45
  go_wp2_with (go_at_call 77; refine hcon.mono ?_; rintro e w' ⟨rfl, hb1⟩)
  go_ret
  exact ⟨ret_bool (by simp), hb1⟩
end Go.Proofs.Ytncbgnlojabpfaa.G
