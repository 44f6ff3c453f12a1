/- impl.ValidMarks, by its closure and slices.ContainsFunc. -/
import Derived.Test.YthkifkfnlmjafaaDoorG0
import Derived.Test.YthkifkfnlmjafaaDoorWk
import Derived.Test.YthkifkfnlmjafaaDoorFAllW
import Derived.Test.YthkifkfnlmjafaaDoorFContMarks
import Derived.Test.YthkifkfnlmjafaaDoorG1
namespace Go.Proofs.YthkifkfnlmjafaaDoor.G
open Go.RowKit Go.Proofs.YthkifkfnlmjafaaDoorW.PrintWords Go.Proofs.YthkifkfnlmjafaaDoorW.PrintLast Go.Proofs.YthkifkfnlmjafaaDoorW.PrintMore
attribute [local go_sem] max2_int min2_int max_two min_two max_three min_three max_four min_four   -- for this text's walks alone
set_option linter.unusedVariables false
set_option linter.unusedSimpArgs false

open Go.Proofs.YthkifkfnlmjafaaDoor.Wk

theorem areSamples_tells (n : Int) : impl_areSamples.f n = some (inB n 1 8) := by
  unfold impl_areSamples.f impl_within.f inB
  by_cases h : 1 ≤ n <;> simp [h]
/-- Are these marks of one taster? -/
def rowB (s : Int) (l : List Int) : Bool := decide ((l.length : Int) = s) && allB l 0 20
def marksB (s : Int) (m : List (List Int)) : Bool := inB s 1 8 && (decide (m.length ≤ 12) && m.all (rowB s))

set_option maxHeartbeats 1000000 in
theorem validMarks_1 (A : Option Addr) (c : Nat) (l : List Int) (s : Int) (a1 : Addr) (w : World) (hr : Kd.C (Kd.int .i64) w A l.length l) (hc : l.length ≤ c) (h1 : w.cell? a1 = some (.int .i64 s)) :
    Calls Tryd.prog 71 #[.slice A l.length c, .pointer (some a1)] w fun e w' => e = .returned (.bool (!(rowB s l))) ∧ Below w.heap.size w w' := by
  have hbig : l.length ≤ 9223372036854775807 := hr.2.1
  unfold rowB
  by_cases hs : (l.length : Int) = s
  · have e1 : ((l.length : Int) == s) = true := by simpa using hs
    have e2 : ((l.length : Int) != s) = false := by simpa using hs
    have hcon := impl_allWithin.calls A c l 0 20 (allB l 0 20) w hr hc rfl
    have Hs := Lib.hid hs
    clear hs hr
    generalize allB l 0 20 = b at hcon ⊢
    go_enter Tryd.func71, Tryd.ntmps71
    go_wp2_with (go_at_call 72; refine hcon.mono ?_; rintro e w' ⟨rfl, hb1⟩)
    go_ret
    exact ⟨ret_bool (by simp [Hs.out]), hb1⟩
  · have e1 : ((l.length : Int) == s) = false := by simpa using hs
    have e2 : ((l.length : Int) != s) = true := by simpa using hs
    clear hr
    go_enter Tryd.func71, Tryd.ntmps71
    go_wp2
    go_ret
    exact ⟨ret_bool (by simp [hs]), Below.refl _ _⟩

def impl_ValidMarks.f (a0 : Int) (l1 : List (List Int)) : Option Bool := some (marksB a0 l1)
set_option maxHeartbeats 2000000 in
theorem impl_ValidMarks.calls (a0 : Int) (A1 : Option Addr) (c1 : Nat) (l1 : List (List Int)) (r : Bool) (w : World) (hr1 : Kd.C (Kd.slice 2 (Kd.int .i64)) w A1 l1.length l1) (hc1 : l1.length ≤ c1) (h : impl_ValidMarks.f a0 l1 = some r) :
    Calls Tryd.prog 46 #[.int .i64 a0, .slice A1 l1.length c1] w fun e w' => e = .returned (.bool r) ∧ Below w.heap.size w w' := by
  obtain rfl := Option.some.inj h
  clear h
  have hbig : l1.length ≤ 9223372036854775807 := hr1.2.1
  have hsam := fun W => impl_areSamples.calls a0 (inB a0 1 8) W (areSamples_tells a0)
  have Hsam := Lib.hid hsam
  clear hsam
  have eg : ∀ args w, (callFunc 71 args).run Tryd.prog w = .ok (.enter 71 args) w := enters_of Tryd.func71 (by kernel_rfl) rfl
  have hb : Below w.heap.size w (w.alloc (.cells #[.int .i64 a0] 2)) := (Below.refl _ _).alloc (Nat.le_refl _) _
  have cc : (w.alloc (.cells #[.int .i64 a0] 2)).cell? ⟨w.heap.size, 0, none⟩ = some (.int .i64 a0) := by
    rw [World.cell?_alloc_at _ _ _ _ (by simp)]; rfl
  obtain ⟨AA, cs, hcell, hrow⟩ := C_rows_cells hr1
  have hcon := fun n => ContMarks.containsFunc A1 l1.length c1 (fun j => .slice (AA j) (l1.getD j []).length (cs j)) (fun j => !(rowB a0 (l1.getD j []))) 71 #[.pointer (some ⟨w.heap.size, 0, none⟩)]
    ((w.alloc (.cells #[.int .i64 a0] 2)).drewN n) eg hr1.2.1 (fun hn => by
      obtain ⟨ad, e, hx⟩ := hcell hn
      exact ⟨ad, e, fun j hj => pw_cell_below hb (hx j hj)⟩)
    (fun j hj W hW => by
      have hW' : Below (w.alloc (.cells #[.int .i64 a0] 2)).heap.size (w.alloc (.cells #[.int .i64 a0] 2)) W := below_then (pw_below_drewN (Below.refl _ _) n) (Nat.le_refl _) hW
      exact validMarks_1 _ _ _ a0 _ W (Kd.C_below (Kd.C_below (hrow j hj).2 hb) hW') (hrow j hj).1 (pw_cell_below hW' cc))
  rw [any_not_all l1 [] (rowB a0)] at hcon
  have Hcon := Lib.hid hcon
  clear hcon hrow hcell hr1 eg
  have Hb := Lib.hid hb
  clear hb
  unfold marksB
  generalize l1.all (rowB a0) = b at Hcon ⊢
  cases hs : inB a0 1 8
  · rw [hs] at Hsam
    go_enter Tryd.func46, Tryd.ntmps46
    go_wp2_with (go_at_call 50; refine (Hsam.out _).mono ?_; rintro e w' ⟨rfl, ⟨n, rfl⟩⟩)
    go_ret
    exact ⟨ret_bool (by simp), pw_below_drewN Hb.out _⟩
  · rw [hs] at Hsam
    by_cases h12 : l1.length ≤ 12
    · have e1 : decide ((l1.length : Int) ≤ 12) = true := by simp; omega
      go_enter Tryd.func46, Tryd.ntmps46
      go_wp2_with (first | (go_at_call 50; refine (Hsam.out _).mono ?_; rintro e w' ⟨rfl, ⟨n, rfl⟩⟩) | (go_at_call 70; refine (Hcon.out _).mono ?_; rintro e w' ⟨rfl, hb1⟩))
      go_ret
      exact ⟨ret_bool (by simp [h12]), below_then (pw_below_drewN Hb.out _) (by have := Hb.out.size; exact this) hb1⟩
    · have e1 : decide ((l1.length : Int) ≤ 12) = false := by simp; omega
      go_enter Tryd.func46, Tryd.ntmps46
      go_wp2_with (go_at_call 50; refine (Hsam.out _).mono ?_; rintro e w' ⟨rfl, ⟨n, rfl⟩⟩)
      go_ret
      exact ⟨ret_bool (by simp [h12]), pw_below_drewN Hb.out _⟩
end Go.Proofs.YthkifkfnlmjafaaDoor.G
