import Derived.Test.YtbhcdefemmpkpaaZPl
import Derived.Test.YtbhcdefemmpkpaaZWk
import Derived.Test.YtbhcdefemmpkpaaZFContRows
import Derived.Test.YtbhcdefemmpkpaaZFOrder
namespace Go.Proofs.Ytbhcdefemmpkpaa.G
open Go.RowKit Go.Proofs.YtbhcdefemmpkpaaW.PrintWords Go.Proofs.YtbhcdefemmpkpaaW.PrintLast Go.Proofs.YtbhcdefemmpkpaaW.PrintMore
attribute [local go_sem] max2_int min2_int max_two min_two max_three min_three max_four min_four
set_option linter.unusedVariables false
set_option linter.unusedSimpArgs false
open Go.Proofs.Ytbhcdefemmpkpaa.Wk Go.Proofs.Ytbhcdefemmpkpaa.Pl
def ordB (s : Int) (l : List Int) : Bool := inB s 1 8 && (decide ((l.length : Int) = s) && orderB s l)
def badOrders.f (l : List (List Int)) (s : Int) : Option Bool := if (l.all fun x => decide (x.length ≤ 1099511627776)) = true then some (!(l.all (ordB s))) else none
set_option maxHeartbeats 1000000 in
theorem followsOf_1 (A : Option Addr) (c : Nat) (l : List Int) (s : Int) (a1 : Addr) (w : World) (hr : Kd.C (Kd.int .i64) w A l.length l) (hc : l.length ≤ c) (hl : l.length ≤ 1099511627776) (h1 : w.cell? a1 = some (.int .i64 s)) :
    Calls Try.prog 53 #[.slice A l.length c, .pointer (some a1)] w fun e w' => e = .returned (.bool (!(ordB s l))) ∧ Below w.heap.size w w' := by
  have hcon := fun W (e : Below w.heap.size w W) => impl_IsOrder.calls s A c l (ordB s l) W (Kd.C_below hr e) hc (by unfold impl_IsOrder.f; rw [if_pos hl]; rfl)
  have Hcon := Lib.hid hcon
  clear hcon hr; generalize ordB s l = b at Hcon ⊢
  go_enter Try.func53, Try.ntmps53
  go_wp2_with (go_at_call 15; refine (Hcon.out _ (Below.refl _ _)).mono ?_; rintro e w' ⟨rfl, hb1⟩)
  go_ret
  exact ⟨rfl, hb1⟩
theorem badOrders.calls (A0 : Option Addr) (c0 : Nat) (l0 : List (List Int)) (a1 : Int) (r : Bool) (p : Addr) (w : World) (hp : w.cell? p = some (.int .i64 a1)) (hr0 : Kd.C (Kd.slice 2 (Kd.int .i64)) w A0 l0.length l0) (hc0 : l0.length ≤ c0) (h : badOrders.f l0 a1 = some r) :
    Calls Try.prog 52 #[.slice A0 l0.length c0, .func (.func 53) #[] #[.pointer (some p)]] w fun e w' => e = .returned (.bool r) ∧ Below w.heap.size w w' := by
  unfold badOrders.f at h
  by_cases hh : (l0.all fun x => decide (x.length ≤ 1099511627776)) = true
  case neg => rw [if_neg hh] at h; exact absurd h (by simp)
  rw [if_pos hh] at h
  obtain rfl := Option.some.inj h
  clear h; have eg : ∀ args w, (callFunc 53 args).run Try.prog w = .ok (.enter 53 args) w := enters_of Try.func53 (by kernel_rfl) rfl
  obtain ⟨AA, cs, hcell, hrow⟩ := C_rows_cells hr0
  rw [← any_not_all l0 [] (ordB a1)]
  exact ContRows.containsFunc A0 l0.length c0 (fun j => .slice (AA j) (l0.getD j []).length (cs j)) (fun j => !(ordB a1 (l0.getD j []))) 53 #[.pointer (some p)] w eg hr0.2.1 hcell
    (fun j hj W hW => followsOf_1 _ _ _ a1 p W (Kd.C_below (hrow j hj).2 hW) (hrow j hj).1 (by
      have := List.all_eq_true.1 hh _ (List.getElem_mem hj)
      rw [getD_lt hj]
      exact of_decide_eq_true this) (pw_cell_below hW hp))
end Go.Proofs.Ytbhcdefemmpkpaa.G
