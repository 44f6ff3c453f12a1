import Derived.Test.YthkifkfnlmjafaaZG0
import Derived.Test.YthkifkfnlmjafaaZWk
import Derived.Test.YthkifkfnlmjafaaZFWalked
import Derived.Test.YthkifkfnlmjafaaZG1
namespace Go.Proofs.Ythkifkfnlmjafaa.G
open Go.RowKit Go.Proofs.YthkifkfnlmjafaaW.PrintWords Go.Proofs.YthkifkfnlmjafaaW.PrintLast Go.Proofs.YthkifkfnlmjafaaW.PrintMore
attribute [local go_sem] max2_int min2_int max_two min_two max_three min_three max_four min_four
set_option linter.unusedVariables false
set_option linter.unusedSimpArgs false
open Go.Proofs.Ythkifkfnlmjafaa.Wk
def untilF (d : Int) : CntF := fun f0 f1 f2 f3 f4 f5 => impl_Walker_until.f f0 f1 f2 f3 f4 f5 d
set_option maxHeartbeats 1000000 in
theorem rowOn_1 (d : Int) (a : Addr) (w0 : World) (h : w0.cell? a = some (.int .i64 d)) : ClosOk (untilF d) 53 #[.pointer (some a)] w0 := by
  intro f0 f1 f2 f3 f4 f5 t ht W hW
  have hc := pw_cell_below hW h
  have hb : Below W.heap.size W (W.alloc (.cells #[.int .i16 f0, .int .i16 f1, .int .i16 f2, .int .i16 f3, .int .i16 f4, .int .i8 f5] 53)) := (Below.refl _ _).alloc (Nat.le_refl _) _
  have h2 := pw_cell_below hb hc
  have HT := Lib.hid (show impl_Walker_until.f f0 f1 f2 f3 f4 f5 d = some t from ht)
  have Hb := Lib.hid hb
  clear hc hb h hW ht; go_enter Try.func53, Try.ntmps53
  go_wp2_with (go_at_call 54; ((with_reducible refine (impl_Walker_until.calls f0 f1 f2 f3 f4 f5 d t _ HT.out).mono ?_); rintro e w' ⟨rfl, hb1⟩))
  go_ret
  exact ⟨rfl, below_then Hb.out Hb.out.size hb1⟩
def impl_rowOn.f (k : Nat) (l0 : List Int) (l1 : List S53) (a2 : Int) : Option (List Int) := impl_walked.f k l0 l1 (untilF a2)
theorem impl_rowOn.mono : ∀ a0 a1 a2 k, LeO (impl_rowOn.f k a0 a1 a2) (impl_rowOn.f (k + 1) a0 a1 a2) := fun a0 a1 a2 k => impl_walked.mono _ _ _ _
set_option maxHeartbeats 1000000 in
theorem impl_rowOn.calls (k : Nat) (A0 : Option Addr) (c0 : Nat) (l0 : List Int) (A1 : Option Addr) (c1 : Nat) (l1 : List S53) (a2 : Int) (r : List Int) (w : World) (hr0 : Kd.C (Kd.int .u8) w A0 l0.length l0) (hc0 : l0.length ≤ c0) (hr1 : Kd.C k53 w A1 l1.length l1) (hc1 : l1.length ≤ c1) (h : impl_rowOn.f k l0 l1 a2 = some r) :
    Calls Try.prog 32 #[.slice A0 l0.length c0, .slice A1 l1.length c1, .int .i64 a2] w fun e w' => ∃ v0_ : Value, e = .returned v0_ ∧ Kd.R (Kd.int .u8) 5 w' w.heap.size (fun _ => True) v0_ r ∧ Below w.heap.size w w' := by
  have eg : ∀ args w, (callFunc 53 args).run Try.prog w = .ok (.enter 53 args) w := enters_of Try.func53 (by kernel_rfl) rfl
  have hb : Below w.heap.size w (w.alloc (.cells #[.int .i64 a2] 2)) := (Below.refl _ _).alloc (Nat.le_refl _) _
  have cc : (w.alloc (.cells #[.int .i64 a2] 2)).cell? ⟨w.heap.size, 0, none⟩ = some (.int .i64 a2) := by
    rw [World.cell?_alloc_at _ _ _ _ (by simp)]; rfl
  have hcon := impl_walked.calls k A0 c0 l0 A1 c1 l1 (untilF a2) 53 #[.pointer (some ⟨w.heap.size, 0, none⟩)] r _ eg (rowOn_1 a2 ⟨w.heap.size, 0, none⟩ _ cc) (Kd.C_below hr0 hb) hc0 (Kd.C_below hr1 hb) hc1 h
  have Hcon := Lib.hid hcon
  have Hb := Lib.hid hb
  clear hcon hb cc eg hr0 hr1 h; go_enter Try.func32, Try.ntmps32
  go_wp2_with (go_at_call 43; ((with_reducible refine Hcon.out.mono ?_); rintro e w' ⟨v, rfl, hR, hb1⟩))
  go_ret
  exact ⟨v, rfl, Kd.R_lower hR Hb.out.size, below_then Hb.out Hb.out.size hb1⟩
end Go.Proofs.Ythkifkfnlmjafaa.G
