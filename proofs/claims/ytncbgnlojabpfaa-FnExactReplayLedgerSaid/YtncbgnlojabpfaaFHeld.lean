/- Holdings, as the reference looks at them by their addresses. -/
import Derived.Test.YtncbgnlojabpfaaG0
import Derived.Test.YtncbgnlojabpfaaWk
namespace Go.Proofs.Ytncbgnlojabpfaa.G
open Go.RowKit Go.Proofs.YtncbgnlojabpfaaW.PrintWords Go.Proofs.YtncbgnlojabpfaaW.PrintLast Go.Proofs.YtncbgnlojabpfaaW.PrintMore
attribute [local go_sem] max2_int min2_int max_two min_two max_three min_three max_four min_four   -- for this text's walks alone
set_option linter.unusedVariables false
set_option linter.unusedSimpArgs false

open Go.Proofs.Ytncbgnlojabpfaa.Wk

theorem l00In_any (x lo hi : Int) (w : World) : Calls Try.prog 81 #[.int .i64 x, .int .i64 lo, .int .i64 hi] w fun e w' => e = .returned (.bool (inB x lo hi)) ∧ w = w' := by
  by_cases h1 : lo ≤ x
  · by_cases h2 : x ≤ hi
    · rw [inB_yes h1 h2]
      go_enter Try.func81, Try.ntmps81
      go_wp2
      go_ret
      exact ⟨by simp [*], rfl⟩
    · rw [inB_high h2]
      go_enter Try.func81, Try.ntmps81
      go_wp2
      go_ret
      exact ⟨by simp [*], rfl⟩
  · rw [inB_low h1]
    go_enter Try.func81, Try.ntmps81
    go_wp2
    go_ret
    exact ⟨rfl, rfl⟩

/-- Is a holding within its bounds? -/
def heldB (f0 f1 f2 f3 f4 : Int) : Bool := inB f0 0 1000000 && inB f1 0 1000000 && inB f2 0 1000000 && inB f3 0 1000000 && inB f4 (-1000000000) 1000000000

set_option maxHeartbeats 1000000 in
theorem l06Held_at (a : Addr) (f0 f1 f2 f3 f4 : Int) (w : World) (h0 : w.cell? a = some (.int .i64 f0)) (h1 : w.cell? ⟨a.block, a.off + 1, none⟩ = some (.int .i64 f1)) (h2 : w.cell? ⟨a.block, a.off + 2, none⟩ = some (.int .i64 f2))
    (h3 : w.cell? ⟨a.block, a.off + 3, none⟩ = some (.int .i64 f3)) (h4 : w.cell? ⟨a.block, a.off + 4, none⟩ = some (.int .i64 f4)) :
    Calls Try.prog 73 #[.pointer (some a)] w fun e w' => e = .returned (.bool (heldB f0 f1 f2 f3 f4)) ∧ w = w' := by
  unfold heldB
  cases b0 : inB f0 0 1000000
  · go_enter Try.func73, Try.ntmps73
    go_wp2_with (go_at_call 81; refine (l00In_any _ _ _ _).mono ?_; rintro e w' ⟨rfl, rfl⟩)
    go_ret
    exact ⟨by simp, rfl⟩
  · cases b1 : inB f1 0 1000000
    · go_enter Try.func73, Try.ntmps73
      go_wp2_with (go_at_call 81; refine (l00In_any _ _ _ _).mono ?_; rintro e w' ⟨rfl, rfl⟩)
      go_ret
      exact ⟨by simp, rfl⟩
    · cases b2 : inB f2 0 1000000
      · go_enter Try.func73, Try.ntmps73
        go_wp2_with (go_at_call 81; refine (l00In_any _ _ _ _).mono ?_; rintro e w' ⟨rfl, rfl⟩)
        go_ret
        exact ⟨by simp, rfl⟩
      · cases b3 : inB f3 0 1000000
        · go_enter Try.func73, Try.ntmps73
          go_wp2_with (go_at_call 81; refine (l00In_any _ _ _ _).mono ?_; rintro e w' ⟨rfl, rfl⟩)
          go_ret
          exact ⟨by simp, rfl⟩
        · go_enter Try.func73, Try.ntmps73
          go_wp2_with (go_at_call 81; refine (l00In_any _ _ _ _).mono ?_; rintro e w' ⟨rfl, rfl⟩)
          go_ret
          exact ⟨by simp, rfl⟩

def hB (h : S71) : Bool := heldB h.f0 h.f1 h.f2 h.f3 h.f4
/-- The code of holdings. -/
def holdsCode (l : List S71) : Int := if inB l.length 1 6 = true then (if l.all hB = true then 0 else 2) else 1
def spec_l06Holdings.f (l0 : List S71) : Option Int := some (holdsCode l0)

theorem all_upto {α : Type} {l : List α} {p : α → Bool} {z : α} (h : ∀ j : Nat, j < l.length → p (l.getD j z) = true) : l.all p = true := by
  rw [List.all_eq_true]
  intro x hx
  obtain ⟨j, hj, rfl⟩ := List.getElem_of_mem hx
  have := h j hj
  simpa [List.getD, hj] using this
theorem all_not {α : Type} {l : List α} {p : α → Bool} {z : α} {j : Nat} (hj : j < l.length) (h : p (l.getD j z) = false) : l.all p = false := by
  rw [List.all_eq_false]
  refine ⟨l[j], List.getElem_mem hj, ?_⟩
  have : l.getD j z = l[j] := by simp [List.getD, hj]
  rw [this] at h
  simp [h]

set_option maxHeartbeats 2000000 in
theorem spec_l06Holdings.calls (A0 : Option Addr) (c0 : Nat) (l0 : List S71) (r : Int) (w : World) (hr0 : Kd.C k71 w A0 l0.length l0) (hc0 : l0.length ≤ c0) (h : spec_l06Holdings.f l0 = some r) :
    Calls Try.prog 69 #[.slice A0 l0.length c0] w fun e w' => e = .returned (.int .i64 r) ∧ Below w.heap.size w w' := by
  obtain rfl := Option.some.inj h
  clear h
  have hbig : l0.length ≤ 9223372036854775807 := hr0.2.1
  have HR := Aside0.mk hr0
  clear hr0
  cases hb : inB (l0.length : Int) 1 6
  · have Hv := Lib.hid (show holdsCode l0 = 1 by unfold holdsCode; rw [hb]; rfl)
    go_enter Try.func69, Try.ntmps69
    go_wp2_with (go_at_call 81; refine (l00In_any _ _ _ _).mono ?_; rintro e w' ⟨rfl, rfl⟩)
    go_ret
    exact ⟨ret_int Hv.out.symm, Below.refl _ _⟩
  · have Hv := Lib.hid (show holdsCode l0 = if l0.all hB = true then 0 else 2 by unfold holdsCode; rw [hb]; rfl)
    go_enter Try.func69, Try.ntmps69
    go_wp2_with (go_at_call 81; refine (l00In_any _ _ _ _).mono ?_; rintro e w' ⟨rfl, rfl⟩)
    go_loop [3] (fun i => ∃ kk : Nat, kk ≤ l0.length ∧ i = .int .i64 kk ∧ Aside0 (∀ j : Nat, j < kk → hB (l0.getD j z71) = true)) (fun i => l0.length - (intOf i).toNat)
    case atStart => exact ⟨0, Nat.zero_le _, rfl, ⟨fun j hj => absurd hj (Nat.not_lt_zero _)⟩⟩
    case round =>
      obtain ⟨kk, hk, rfl, HA⟩ := hrel
      by_cases hlt : kk < l0.length
      · have hlt' : (kk : Int) < (l0.length : Int) := by omega
        obtain ⟨ad, rfl, x0, x1, x2, x3, x4⟩ := at_T71 HR.out kk (by omega) (by omega)
        rw [Int.toNat_natCast] at x0 x1 x2 x3 x4
        have hy : rd_T71 l0 (kk : Int) = l0.getD kk z71 := rfl
        rw [hy] at x0 x1 x2 x3 x4
        clear hy
        generalize hg : l0.getD kk z71 = y at x0 x1 x2 x3 x4
        have Hg := Lib.hid hg
        clear hg
        have hcon := l06Held_at _ _ _ _ _ _ _ x0 x1 x2 x3 x4
        rw [show heldB y.f0 y.f1 y.f2 y.f3 y.f4 = hB y from rfl] at hcon
        clear x0 x1 x2 x3 x4
        cases hq : hB y
        · rw [hq] at hcon
          have Hq := Lib.hid hq
          clear hq
          go_wp2_with (go_at_call 73; refine hcon.mono ?_; rintro e w' ⟨rfl, rfl⟩)
          go_ret
          refine ⟨ret_int ?_, Below.refl _ _⟩
          rw [Hv.out, all_not hlt (by rw [Hg.out]; exact Hq.out)]
          rfl
        · rw [hq] at hcon
          have Hq := Lib.hid hq
          clear hq
          go_wp2_with (go_at_call 73; refine hcon.mono ?_; rintro e w' ⟨rfl, rfl⟩)
          go_round
          case rel =>
            refine ⟨kk + 1, by omega, by go_num, ⟨fun j hj => ?_⟩⟩
            by_cases e : j = kk
            · rw [e, Hg.out]; exact Hq.out
            · exact HA.out j (by omega)
          case measure => simp [intOf]; omega
      · have : kk = l0.length := by omega
        subst this
        go_wp2
        go_ret
        refine ⟨ret_int ?_, Below.refl _ _⟩
        rw [Hv.out, all_upto HA.out]
        rfl

def pricesB (b c : Int) : Bool := inB (wrap64 b) 0 1000 && inB (wrap64 c) 0 1000
set_option maxHeartbeats 1000000 in
theorem l06Prices_any (b c : Int) (w : World) : Calls Try.prog 72 #[.agg #[.int .i16 b, .int .i16 c]] w fun e w' => e = .returned (.bool (pricesB b c)) ∧ w.alloc (.cells #[.int .i16 b, .int .i16 c] 33) = w' := by
  unfold pricesB
  cases b0 : inB (wrap64 b) 0 1000
  · go_enter Try.func72, Try.ntmps72
    go_wp2_with (go_at_call 81; refine (l00In_any _ _ _ _).mono ?_; rintro e w' ⟨rfl, rfl⟩)
    go_ret
    exact ⟨by simp, rfl⟩
  · go_enter Try.func72, Try.ntmps72
    go_wp2_with (go_at_call 81; refine (l00In_any _ _ _ _).mono ?_; rintro e w' ⟨rfl, rfl⟩)
    go_ret
    exact ⟨by simp, rfl⟩

end Go.Proofs.Ytncbgnlojabpfaa.G
