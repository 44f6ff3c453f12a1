import Derived.Test.YthkifkfnlmjafaaZG0
import Derived.Test.YthkifkfnlmjafaaZWk
import Derived.Test.YthkifkfnlmjafaaZFContU8
import Derived.Test.YthkifkfnlmjafaaZFWith
namespace Go.Proofs.Ythkifkfnlmjafaa.G
open Go.RowKit Go.Proofs.YthkifkfnlmjafaaW.PrintWords Go.Proofs.YthkifkfnlmjafaaW.PrintLast Go.Proofs.YthkifkfnlmjafaaW.PrintMore
attribute [local go_sem] max2_int min2_int max_two min_two max_three min_three max_four min_four
set_option linter.unusedVariables false
set_option linter.unusedSimpArgs false
open Go.Proofs.Ythkifkfnlmjafaa.Wk
theorem validRow_1 (x : Int) (w : World) : Calls Try.prog 57 #[.int .u8 x] w fun e w' => e = .returned (.bool (!(decide (x ≤ 7)))) ∧ w = w' := by
  have e : (!(decide (x ≤ 7))) = decide (7 < x) := by rw [Bool.eq_iff_iff]; simp
  rw [e]
  go_enter Try.func57, Try.ntmps57
  go_wp2
  go_ret
  exact ⟨rfl, rfl⟩
def rowOkB (l : List Int) : Bool := inB (l.length : Int) 1 60 && l.all fun x => decide (x ≤ 7)
def impl_ValidRow.f (l0 : List Int) : Option Bool := some (rowOkB l0)
set_option maxHeartbeats 1000000 in
theorem impl_ValidRow.calls (A0 : Option Addr) (c0 : Nat) (l0 : List Int) (r : Bool) (w : World) (hr0 : Kd.C (Kd.int .u8) w A0 l0.length l0) (hc0 : l0.length ≤ c0) (h : impl_ValidRow.f l0 = some r) :
    Calls Try.prog 41 #[.slice A0 l0.length c0] w fun e w' => e = .returned (.bool r) ∧ Below w.heap.size w w' := by
  obtain rfl := Option.some.inj h
  clear h; have eg : ∀ args w, (callFunc 57 args).run Try.prog w = .ok (.enter 57 args) w := enters_of Try.func57 (by kernel_rfl) rfl
  have hcon := ContU8.containsFunc A0 l0.length c0 (fun j => .int .u8 (l0.getD j 0)) (fun j => !(decide (l0.getD j 0 ≤ 7))) 57 #[] w eg hr0.2.1 (C_int_cells hr0)
    (fun j hj W hW => (validRow_1 _ W).mono fun e W' ⟨he, hw⟩ => ⟨he, by rw [← hw]; exact Below.refl _ _⟩)
  rw [any_not_all l0 0 (fun x => decide (x ≤ 7))] at hcon
  have hw := fun W => WithW.within (l0.length : Int) 1 60 W
  unfold rowOkB
  generalize (l0.all fun x => decide (x ≤ 7)) = b at hcon ⊢
  generalize inB (l0.length : Int) 1 60 = b1 at hw ⊢
  have H1 := Lib.hid hw
  clear eg hr0 hc0 hw; cases b1
  · go_enter Try.func41, Try.ntmps41
    go_wp2_with (first | (go_at_call 42; (with_reducible refine (H1.out _).mono ?_); rintro e w' ⟨rfl, rfl⟩))
    go_ret
    exact ⟨ret_bool (by simp), Below.refl _ _⟩
  · go_enter Try.func41, Try.ntmps41
    go_wp2_with (first | (go_at_call 42; (with_reducible refine (H1.out _).mono ?_); rintro e w' ⟨rfl, rfl⟩) | (go_at_call 31; refine hcon.mono ?_; rintro e w' ⟨rfl, hb1⟩))
    go_ret
    exact ⟨ret_bool (by simp), hb1⟩
end Go.Proofs.Ythkifkfnlmjafaa.G
