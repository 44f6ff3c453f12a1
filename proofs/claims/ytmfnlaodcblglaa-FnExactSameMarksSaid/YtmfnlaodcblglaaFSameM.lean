/- impl.SameMarks, by slices.EqualFunc at impl.Marks and slices.Equal as the function that it is handed. -/
import Derived.Test.YtmfnlaodcblglaaG0
import Derived.Test.YtmfnlaodcblglaaWk
import Derived.Test.YtmfnlaodcblglaaPl
import Derived.Test.YtmfnlaodcblglaaG20
namespace Go.Proofs.Ytmfnlaodcblglaa.G
open Go.RowKit Go.Proofs.YtmfnlaodcblglaaW.PrintWords Go.Proofs.YtmfnlaodcblglaaW.PrintLast Go.Proofs.YtmfnlaodcblglaaW.PrintMore
attribute [local go_sem] max2_int min2_int max_two min_two max_three min_three max_four min_four   -- for this text's walks alone
set_option linter.unusedVariables false
set_option linter.unusedSimpArgs false

open Go.Proofs.Ytmfnlaodcblglaa.Wk Go.Proofs.Ytmfnlaodcblglaa.Pl

theorem same_all {α : Type} [DecidableEq α] (a b : List α) (z : α) (h : a.length = b.length) : (List.range a.length).all (fun j => decide (a.getD j z = b.getD j z)) = decide (a = b) := by
  by_cases e : a = b
  · subst e
    simp
  · rw [decide_eq_false e]
    refine Bool.eq_false_iff.2 fun hc => e ?_
    rw [List.all_eq_true] at hc
    apply List.ext_getElem h
    intro i h1 h2
    have := hc i (List.mem_range.2 h1)
    rw [decide_eq_true_eq, getD_lt h1, getD_lt h2] at this
    exact this
theorem equal_tells (a b : List Int) (ha : a.length ≤ 9223372036854775807) : Ev (fun k => slices_Equal_int64_int64.f k a b) (decide (a = b)) := by
  unfold slices_Equal_int64_int64.f
  by_cases hl : (a.length : Int) = (b.length : Int)
  · simp only [if_pos hl]
    have hr : ∀ (l : List Int) (j : Nat), rd l (j : Int) = l.getD j 0 := fun _ _ => rfl
    have h := ev_all (F := fun k i => slices_Equal_int64_int64.l0 k a b (a.length : Int) i) a.length (fun j => decide (a.getD j 0 = b.getD j 0)) true false (fun i hi hp r h2 => by
      refine Ev.step (fun k => slices_Equal_int64_int64.l0.eq_2 _ _ _ _ k) ?_
      have w1 : wrap64 ((i : Int) + 1) = ((i + 1 : Nat) : Int) := by rw [w_id (by omega) (by omega)]; omega
      simp only [hr, if_pos (show (i : Int) < (a.length : Int) by omega), if_pos (show (0 : Int) ≤ (i : Int) by omega), if_pos (show (i : Int) < (b.length : Int) by omega), if_pos (of_decide_eq_true hp), w1]
      exact h2) (fun i hi hp => by
      refine Ev.step (fun k => slices_Equal_int64_int64.l0.eq_2 _ _ _ _ k) ?_
      simp only [hr, if_pos (show (i : Int) < (a.length : Int) by omega), if_pos (show (0 : Int) ≤ (i : Int) by omega), if_pos (show (i : Int) < (b.length : Int) by omega), if_neg (of_decide_eq_false hp)]
      exact Ev.now _) (by
      refine Ev.step (fun k => slices_Equal_int64_int64.l0.eq_2 _ _ _ _ k) ?_
      simp only [if_neg (show ¬ ((a.length : Int) < (a.length : Int)) by omega)]
      exact Ev.now _)
    rw [same_all a b 0 (by omega)] at h
    have e : (if decide (a = b) = true then true else false) = decide (a = b) := by cases decide (a = b) <;> rfl
    rw [e] at h
    exact h
  · simp only [if_neg hl]
    rw [decide_eq_false (fun e => hl (by rw [e]))]
    exact Ev.now _
theorem equal_any (A B : Option Addr) (c d : Nat) (a b : List Int) (w : World) (ha : Kd.C (Kd.int .i64) w A a.length a) (hc : a.length ≤ c) (hb : Kd.C (Kd.int .i64) w B b.length b) (hd : b.length ≤ d) :
    Calls Try.prog 70 #[.slice A a.length c, .slice B b.length d] w fun e w' => e = .returned (.bool (decide (a = b))) ∧ Below w.heap.size w w' := by
  obtain ⟨k, hk⟩ := (equal_tells a b ha.2.1).rounds
  refine (slices_Equal_int64_int64.calls k A c a B d b _ w ha hc hb hd hk).mono ?_
  rintro e w' ⟨he, n, rfl⟩
  exact ⟨he, pw_below_drewN (Below.refl _ _) n⟩

theorem all_no {n : Nat} {p : Nat → Bool} {j : Nat} (hj : j < n) (h : p j = false) : (List.range n).all p = false := List.all_eq_false.2 ⟨j, List.mem_range.2 hj, by rw [h]; simp⟩
theorem all_yes {n : Nat} {p : Nat → Bool} (h : ∀ j, j < n → p j = true) : (List.range n).all p = true := List.all_eq_true.2 fun j hj => h j (List.mem_range.1 hj)
set_option maxHeartbeats 2000000 in
theorem equalFunc (A B : Option Addr) (n c d : Nat) (V U : Nat → Value) (p : Nat → Bool) (g : Nat) (w : World) (eg : ∀ args w, (callFunc g args).run Try.prog w = .ok (.enter g args) w) (hn : n ≤ 9223372036854775807)
    (ha : 0 < n → ∃ ad, A = some ad ∧ ∀ j, j < n → w.cell? (ad.add j) = some (V j)) (hb : 0 < n → ∃ ad, B = some ad ∧ ∀ j, j < n → w.cell? (ad.add j) = some (U j))
    (hp : ∀ j, j < n → ∀ W, Below w.heap.size w W → Calls Try.prog g #[V j, U j] W fun e W' => e = .returned (.bool (p j)) ∧ Below W.heap.size W W') :
    Calls Try.prog 69 #[.slice A n c, .slice B n d, .func (.func g) #[] #[]] w fun e w' => e = .returned (.bool ((List.range n).all p)) ∧ Below w.heap.size w w' := by
  have HP := Aside0.mk hp
  have HC := Aside0.mk ha
  have HD := Aside0.mk hb
  clear hp ha hb
  have e0 : ((n : Int) != (n : Int)) = false := by simp
  go_enter Try.func69, Try.ntmps69
  go_wp2
  go_loopg [7, 8, 9, 17] n (fun gg _ _ _ s17 wr => ∃ kk : Nat, kk ≤ n ∧ n - kk ≤ gg ∧ s17 = .int .i64 kk ∧ Aside0 (Below w.heap.size w wr) ∧ Aside0 (∀ j, j < kk → p j = true))
  case atStart => exact ⟨0, Nat.zero_le _, by omega, rfl, ⟨Below.refl _ _⟩, ⟨fun j hj => absurd hj (Nat.not_lt_zero _)⟩⟩
  case round =>
    obtain ⟨kk, hkk, hg, rfl, HB, HA⟩ := hrel
    by_cases hlt : kk < n
    · have hltz : (kk : Int) < (n : Int) := by omega
      obtain ⟨ad, rfl, hcell⟩ := HC.out (by omega)
      obtain ⟨bd, rfl, hcellb⟩ := HD.out (by omega)
      have x0 := pw_cell_below HB.out (hcell kk hlt)
      have x1 := pw_cell_below HB.out (hcellb kk hlt)
      clear hcell hcellb
      have hcall := HP.out kk hlt
      have Hcall := Aside0.mk hcall
      clear hcall
      cases hq : p kk with
      | false =>
        have Hq := Lib.hid hq
        go_wp2_with (go_at_fn g; refine (Hcall.out _ HB.out).mono ?_; rintro e w' ⟨rfl, hb1⟩)
        go_ret
        exact ⟨ret_bool (all_no hlt Hq.out).symm, below_then HB.out HB.out.size hb1⟩
      | true =>
        have Hq := Lib.hid hq
        go_wp2_with (go_at_fn g; refine (Hcall.out _ HB.out).mono ?_; rintro e w' ⟨rfl, hb1⟩)
        go_roundg (n - (kk + 1))
        case measure => omega
        case rel =>
          refine ⟨kk + 1, by omega, by omega, by go_num, ⟨below_then HB.out HB.out.size hb1⟩, ⟨fun j hj => ?_⟩⟩
          by_cases e : j = kk
          · rw [e]; exact Hq.out
          · exact HA.out j (by omega)
    · have hltz : ¬ (kk : Int) < (n : Int) := by omega
      obtain rfl : kk = n := by omega
      go_wp2
      go_ret
      exact ⟨ret_bool (all_yes HA.out).symm, HB.out⟩
set_option maxHeartbeats 2000000 in
theorem equalFunc_short (A B : Option Addr) (n m c d : Nat) (v : Value) (w : World) (hnm : n ≠ m) :
    Calls Try.prog 69 #[.slice A n c, .slice B m d, v] w fun e w' => e = .returned (.bool false) ∧ Below w.heap.size w w' := by
  have e0 : ((n : Int) != (m : Int)) = true := by simp; omega
  have e1 : ((n : Int) == (m : Int)) = false := by simp; omega
  go_enter Try.func69, Try.ntmps69
  go_wp2
  go_ret
  exact ⟨rfl, Below.refl _ _⟩

def impl_SameMarks.f (l0 : List (List Int)) (l1 : List (List Int)) : Option Bool := some (decide (l0 = l1))
set_option maxHeartbeats 2000000 in
theorem impl_SameMarks.calls (A0 : Option Addr) (c0 : Nat) (l0 : List (List Int)) (A1 : Option Addr) (c1 : Nat) (l1 : List (List Int)) (r : Bool) (w : World) (hr0 : Kd.C (Kd.slice 2 (Kd.int .i64)) w A0 l0.length l0) (hc0 : l0.length ≤ c0) (hr1 : Kd.C (Kd.slice 2 (Kd.int .i64)) w A1 l1.length l1) (hc1 : l1.length ≤ c1) (h : impl_SameMarks.f l0 l1 = some r) :
    Calls Try.prog 31 #[.slice A0 l0.length c0, .slice A1 l1.length c1] w fun e w' => e = .returned (.bool r) ∧ Below w.heap.size w w' := by
  obtain rfl := Option.some.inj h
  clear h
  have eg : ∀ args w, (callFunc 70 args).run Try.prog w = .ok (.enter 70 args) w := enters_of Try.func70 (by kernel_rfl) rfl
  have hcon : Calls Try.prog 69 #[.slice A0 l0.length c0, .slice A1 l1.length c1, .func (.func 70) #[] #[]] w fun e w' => e = .returned (.bool (decide (l0 = l1))) ∧ Below w.heap.size w w' := by
    by_cases hl : l0.length = l1.length
    · obtain ⟨AA, cs, hcell, hrow⟩ := C_rows_cells hr0
      obtain ⟨BB, ds, hcell2, hrow2⟩ := C_rows_cells hr1
      rw [← same_all l0 l1 [] hl, ← hl]
      exact equalFunc A0 A1 l0.length c0 c1 (fun j => .slice (AA j) (l0.getD j []).length (cs j)) (fun j => .slice (BB j) (l1.getD j []).length (ds j)) (fun j => decide (l0.getD j [] = l1.getD j [])) 70 w eg hr0.2.1
        hcell (fun hn => by
          obtain ⟨ad, e, hx⟩ := hcell2 (by omega)
          exact ⟨ad, e, fun j hj => hx j (by omega)⟩)
        (fun j hj W hW => equal_any _ _ _ _ _ _ W (Kd.C_below (hrow j hj).2 hW) (hrow j hj).1 (Kd.C_below (hrow2 j (by omega)).2 hW) (hrow2 j (by omega)).1)
    · rw [decide_eq_false (fun e => hl (by rw [e]))]
      exact equalFunc_short A0 A1 l0.length l1.length c0 c1 _ w hl
  have Hcon := Lib.hid hcon
  clear hcon hr0 hr1 eg
  generalize decide (l0 = l1) = b at Hcon ⊢
  go_enter Try.func31, Try.ntmps31
  go_wp2_with (go_at_call 69; refine Hcon.out.mono ?_; rintro e w' ⟨rfl, hb⟩)
  go_ret
  exact ⟨rfl, hb⟩
end Go.Proofs.Ytmfnlaodcblglaa.G
