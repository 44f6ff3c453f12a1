/- impl.allWithin, by its closure and slices.ContainsFunc. -/
import Derived.Test.YtljkamjdpjaooaaG0
import Derived.Test.YtljkamjdpjaooaaWk
import Derived.Test.YtljkamjdpjaooaaFContI64
namespace Go.Proofs.Ytljkamjdpjaooaa.G
open Go.RowKit Go.Proofs.YtljkamjdpjaooaaW.PrintWords Go.Proofs.YtljkamjdpjaooaaW.PrintLast Go.Proofs.YtljkamjdpjaooaaW.PrintMore
attribute [local go_sem] max2_int min2_int max_two min_two max_three min_three max_four min_four   -- for this text's walks alone
set_option linter.unusedVariables false
set_option linter.unusedSimpArgs false

open Go.Proofs.Ytljkamjdpjaooaa.Wk

theorem within_any (x lo hi : Int) (w : World) : Calls Try.prog 34 #[.int .i64 x, .int .i64 lo, .int .i64 hi] w fun e w' => e = .returned (.bool (inB x lo hi)) ∧ w = w' := by
  by_cases h1 : lo ≤ x
  · by_cases h2 : x ≤ hi
    · rw [inB_yes h1 h2]
      go_enter Try.func34, Try.ntmps34
      go_wp2
      go_ret
      exact ⟨by simp [*], rfl⟩
    · rw [inB_high h2]
      go_enter Try.func34, Try.ntmps34
      go_wp2
      go_ret
      exact ⟨by simp [*], rfl⟩
  · rw [inB_low h1]
    go_enter Try.func34, Try.ntmps34
    go_wp2
    go_ret
    exact ⟨rfl, rfl⟩

theorem allWithin_1 (x lo hi : Int) (a1 a2 : Addr) (w : World) (h1 : w.cell? a1 = some (.int .i64 lo)) (h2 : w.cell? a2 = some (.int .i64 hi)) :
    Calls Try.prog 46 #[.int .i64 x, .pointer (some a1), .pointer (some a2)] w fun e w' => e = .returned (.bool (!(inB x lo hi))) ∧ w = w' := by
  go_enter Try.func46, Try.ntmps46
  go_wp2_with (go_at_call 34; refine (within_any _ _ _ _).mono ?_; rintro e w' ⟨rfl, rfl⟩)
  go_ret
  exact ⟨rfl, rfl⟩

/-- Are all numbers in a range? -/
def allB (l : List Int) (lo hi : Int) : Bool := l.all fun x => inB x lo hi
def impl_allWithin.f (l0 : List Int) (a1 a2 : Int) : Option Bool := some (allB l0 a1 a2)
set_option maxHeartbeats 1000000 in
theorem impl_allWithin.calls (A0 : Option Addr) (c0 : Nat) (l0 : List Int) (a1 a2 : Int) (r : Bool) (w : World) (hr0 : Kd.C (Kd.int .i64) w A0 l0.length l0) (hc0 : l0.length ≤ c0) (h : impl_allWithin.f l0 a1 a2 = some r) :
    Calls Try.prog 35 #[.slice A0 l0.length c0, .int .i64 a1, .int .i64 a2] w fun e w' => e = .returned (.bool r) ∧ Below w.heap.size w w' := by
  obtain rfl := Option.some.inj h
  clear h
  have eg : ∀ args w, (callFunc 46 args).run Try.prog w = .ok (.enter 46 args) w := enters_of Try.func46 (by kernel_rfl) rfl
  have hb : Below w.heap.size w ((w.alloc (.cells #[.int .i64 a1] 2)).alloc (.cells #[.int .i64 a2] 2)) := ((Below.refl _ _).alloc (Nat.le_refl _) _).alloc (by simp) _
  have c1 : ((w.alloc (.cells #[.int .i64 a1] 2)).alloc (.cells #[.int .i64 a2] 2)).cell? ⟨w.heap.size, 0, none⟩ = some (.int .i64 a1) := by
    rw [World.cell?_alloc_past _ _ _ (by simp), World.cell?_alloc_at _ _ _ _ (by simp)]; rfl
  have c2 : ((w.alloc (.cells #[.int .i64 a1] 2)).alloc (.cells #[.int .i64 a2] 2)).cell? ⟨w.heap.size + 1, 0, none⟩ = some (.int .i64 a2) := by
    rw [World.cell?_alloc_at _ _ _ _ (by simp)]; rfl
  have hcon := ContI64.containsFunc A0 l0.length c0 (fun j => .int .i64 (l0.getD j 0)) (fun j => !(inB (l0.getD j 0) a1 a2)) 46 #[.pointer (some ⟨w.heap.size, 0, none⟩), .pointer (some ⟨w.heap.size + 1, 0, none⟩)]
    ((w.alloc (.cells #[.int .i64 a1] 2)).alloc (.cells #[.int .i64 a2] 2)) eg hr0.2.1 (C_int_cells (hr0 |> fun h => Kd.C_below h hb))
    (fun j hj W hW => ((allWithin_1 _ a1 a2 _ _ W (pw_cell_below hW c1) (pw_cell_below hW c2)).mono fun e W' ⟨he, hw⟩ => ⟨he, by rw [← hw]; exact Below.refl _ _⟩))
  rw [any_not_all l0 0 (fun x => inB x a1 a2)] at hcon
  rw [show (l0.all fun x => inB x a1 a2) = allB l0 a1 a2 from rfl] at hcon
  generalize allB l0 a1 a2 = b at hcon ⊢
  clear c1 c2 eg hr0 hc0
  have Hb := Lib.hid hb
  clear hb
  go_enter Try.func35, Try.ntmps35
  go_wp2_with (go_at_call 45; refine hcon.mono ?_; rintro e w' ⟨rfl, hb1⟩)
  go_ret
  exact ⟨ret_bool (by simp), below_then Hb.out Hb.out.size hb1⟩
end Go.Proofs.Ytljkamjdpjaooaa.G
