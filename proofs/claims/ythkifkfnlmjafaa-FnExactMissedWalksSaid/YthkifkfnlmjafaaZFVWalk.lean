import Derived.Test.YthkifkfnlmjafaaZG0
import Derived.Test.YthkifkfnlmjafaaZWk
import Derived.Test.YthkifkfnlmjafaaZFContWalker
import Derived.Test.YthkifkfnlmjafaaZFWith
namespace Go.Proofs.Ythkifkfnlmjafaa.G
open Go.RowKit Go.Proofs.YthkifkfnlmjafaaW.PrintWords Go.Proofs.YthkifkfnlmjafaaW.PrintLast Go.Proofs.YthkifkfnlmjafaaW.PrintMore
attribute [local go_sem] max2_int min2_int max_two min_two max_three min_three max_four min_four
set_option linter.unusedVariables false
set_option linter.unusedSimpArgs false
open Go.Proofs.Ythkifkfnlmjafaa.Wk
def walkB (s f0 f1 f2 f3 f4 f5 : Int) : Bool := inB (wrap64 f0) 0 10000 && (inB (wrap64 f1) 1 100 && (inB (wrap64 f2) 0 (wrap64 (s - 1)) && (inB (wrap64 f3) 0 60 && (inB (wrap64 f4) 1 60 && (inB (wrap64 f5) (-7) 7)))))
def wB (s : Int) (x : S53) : Bool := walkB s x.f0 x.f1 x.f2 x.f3 x.f4 x.f5
def walkersB (s : Int) (l : List S53) : Bool := inB s 1 60 && (decide (l.length ≤ 8) && l.all (wB s))
set_option maxHeartbeats 2000000 in
set_option maxRecDepth 100000 in
theorem validWalkers_1 (s f0 f1 f2 f3 f4 f5 : Int) (a1 : Addr) (w : World) (h1 : w.cell? a1 = some (.int .i64 s)) : Calls Try.prog 63 #[.agg #[.int .i16 f0, .int .i16 f1, .int .i16 f2, .int .i16 f3, .int .i16 f4, .int .i8 f5], .pointer (some a1)] w fun e w' => e = .returned (.bool (!(walkB s f0 f1 f2 f3 f4 f5))) ∧ Below w.heap.size w w' := by
  unfold walkB
  have hb : Below w.heap.size w (w.alloc (.cells #[.int .i16 f0, .int .i16 f1, .int .i16 f2, .int .i16 f3, .int .i16 f4, .int .i8 f5] 53)) := (Below.refl _ _).alloc (Nat.le_refl _) _
  have h2 := pw_cell_below hb h1
  have Hb := Lib.hid hb
  clear hb h1; have g0 := fun W => WithW.within (wrap64 f0) 0 10000 W
  generalize inB (wrap64 f0) 0 10000 = b0 at g0 ⊢
  have G0 := Lib.hid g0
  clear g0; have g1 := fun W => WithW.within (wrap64 f1) 1 100 W
  generalize inB (wrap64 f1) 1 100 = b1 at g1 ⊢
  have G1 := Lib.hid g1
  clear g1; have g2 := fun W => WithW.within (wrap64 f2) 0 (wrap64 (s - 1)) W
  generalize inB (wrap64 f2) 0 (wrap64 (s - 1)) = b2 at g2 ⊢
  have G2 := Lib.hid g2
  clear g2; have g3 := fun W => WithW.within (wrap64 f3) 0 60 W
  generalize inB (wrap64 f3) 0 60 = b3 at g3 ⊢
  have G3 := Lib.hid g3
  clear g3; have g4 := fun W => WithW.within (wrap64 f4) 1 60 W
  generalize inB (wrap64 f4) 1 60 = b4 at g4 ⊢
  have G4 := Lib.hid g4
  clear g4; have g5 := fun W => WithW.within (wrap64 f5) (-7) 7 W
  generalize inB (wrap64 f5) (-7) 7 = b5 at g5 ⊢
  have G5 := Lib.hid g5
  clear g5; cases b0
  · go_enter Try.func63, Try.ntmps63
    go_wp2_with (first | (go_at_call 42; (with_reducible refine (G0.out _).mono ?_); rintro e w' ⟨rfl, rfl⟩))
    go_ret
    exact ⟨ret_bool (by simp), Hb.out⟩
  · skip
    cases b1
    · go_enter Try.func63, Try.ntmps63
      go_wp2_with (first | (go_at_call 42; (with_reducible refine (G0.out _).mono ?_); rintro e w' ⟨rfl, rfl⟩) | (go_at_call 42; (with_reducible refine (G1.out _).mono ?_); rintro e w' ⟨rfl, rfl⟩))
      go_ret
      exact ⟨ret_bool (by simp), Hb.out⟩
    · skip
      cases b2
      · go_enter Try.func63, Try.ntmps63
        go_wp2_with (first | (go_at_call 42; (with_reducible refine (G0.out _).mono ?_); rintro e w' ⟨rfl, rfl⟩) | (go_at_call 42; (with_reducible refine (G1.out _).mono ?_); rintro e w' ⟨rfl, rfl⟩) | (go_at_call 42; (with_reducible refine (G2.out _).mono ?_); rintro e w' ⟨rfl, rfl⟩))
        go_ret
        exact ⟨ret_bool (by simp), Hb.out⟩
      · skip
        cases b3
        · go_enter Try.func63, Try.ntmps63
          go_wp2_with (first | (go_at_call 42; (with_reducible refine (G0.out _).mono ?_); rintro e w' ⟨rfl, rfl⟩) | (go_at_call 42; (with_reducible refine (G1.out _).mono ?_); rintro e w' ⟨rfl, rfl⟩) | (go_at_call 42; (with_reducible refine (G2.out _).mono ?_); rintro e w' ⟨rfl, rfl⟩) | (go_at_call 42; (with_reducible refine (G3.out _).mono ?_); rintro e w' ⟨rfl, rfl⟩))
          go_ret
          exact ⟨ret_bool (by simp), Hb.out⟩
        · skip
          cases b4
          · go_enter Try.func63, Try.ntmps63
            go_wp2_with (first | (go_at_call 42; (with_reducible refine (G0.out _).mono ?_); rintro e w' ⟨rfl, rfl⟩) | (go_at_call 42; (with_reducible refine (G1.out _).mono ?_); rintro e w' ⟨rfl, rfl⟩) | (go_at_call 42; (with_reducible refine (G2.out _).mono ?_); rintro e w' ⟨rfl, rfl⟩) | (go_at_call 42; (with_reducible refine (G3.out _).mono ?_); rintro e w' ⟨rfl, rfl⟩) | (go_at_call 42; (with_reducible refine (G4.out _).mono ?_); rintro e w' ⟨rfl, rfl⟩))
            go_ret
            exact ⟨ret_bool (by simp), Hb.out⟩
          · skip
            cases b5
            · go_enter Try.func63, Try.ntmps63
              go_wp2_with (first | (go_at_call 42; (with_reducible refine (G0.out _).mono ?_); rintro e w' ⟨rfl, rfl⟩) | (go_at_call 42; (with_reducible refine (G1.out _).mono ?_); rintro e w' ⟨rfl, rfl⟩) | (go_at_call 42; (with_reducible refine (G2.out _).mono ?_); rintro e w' ⟨rfl, rfl⟩) | (go_at_call 42; (with_reducible refine (G3.out _).mono ?_); rintro e w' ⟨rfl, rfl⟩) | (go_at_call 42; (with_reducible refine (G4.out _).mono ?_); rintro e w' ⟨rfl, rfl⟩) | (go_at_call 42; (with_reducible refine (G5.out _).mono ?_); rintro e w' ⟨rfl, rfl⟩))
              go_ret
              exact ⟨ret_bool (by simp), Hb.out⟩
            · go_enter Try.func63, Try.ntmps63
              go_wp2_with (first | (go_at_call 42; (with_reducible refine (G0.out _).mono ?_); rintro e w' ⟨rfl, rfl⟩) | (go_at_call 42; (with_reducible refine (G1.out _).mono ?_); rintro e w' ⟨rfl, rfl⟩) | (go_at_call 42; (with_reducible refine (G2.out _).mono ?_); rintro e w' ⟨rfl, rfl⟩) | (go_at_call 42; (with_reducible refine (G3.out _).mono ?_); rintro e w' ⟨rfl, rfl⟩) | (go_at_call 42; (with_reducible refine (G4.out _).mono ?_); rintro e w' ⟨rfl, rfl⟩) | (go_at_call 42; (with_reducible refine (G5.out _).mono ?_); rintro e w' ⟨rfl, rfl⟩))
              go_ret
              exact ⟨ret_bool (by simp), Hb.out⟩
def wcell (h : S53) : Nat → Value
  | 0 => .int .i16 h.f0
  | 1 => .int .i16 h.f1
  | 2 => .int .i16 h.f2
  | 3 => .int .i16 h.f3
  | 4 => .int .i16 h.f4
  | _ => .int .i8 h.f5
def impl_ValidWalkers.f (a0 : Int) (l1 : List S53) : Option Bool := some (walkersB a0 l1)
set_option maxHeartbeats 2000000 in
set_option maxRecDepth 100000 in
theorem impl_ValidWalkers.calls (a0 : Int) (A1 : Option Addr) (c1 : Nat) (l1 : List S53) (r : Bool) (w : World) (hr1 : Kd.C k53 w A1 l1.length l1) (hc1 : l1.length ≤ c1) (h : impl_ValidWalkers.f a0 l1 = some r) :
    Calls Try.prog 51 #[.int .i64 a0, .slice A1 l1.length c1] w fun e w' => e = .returned (.bool r) ∧ Below w.heap.size w w' := by
  obtain rfl := Option.some.inj h
  clear h; have hbig : l1.length ≤ 9223372036854775807 := hr1.2.1
  have hw := fun W => WithW.within a0 1 60 W
  have eg : ∀ args w, (callFunc 63 args).run Try.prog w = .ok (.enter 63 args) w := enters_of Try.func63 (by kernel_rfl) rfl
  have hb : Below w.heap.size w (w.alloc (.cells #[.int .i64 a0] 2)) := (Below.refl _ _).alloc (Nat.le_refl _) _
  have cc : (w.alloc (.cells #[.int .i64 a0] 2)).cell? ⟨w.heap.size, 0, none⟩ = some (.int .i64 a0) := by
    rw [World.cell?_alloc_at _ _ _ _ (by simp)]; rfl
  have hcon := ContWalker.containsFunc A1 l1.length c1 (fun j => wcell (l1.getD j z53)) (fun j => !(wB a0 (l1.getD j z53))) 63 #[.pointer (some ⟨w.heap.size, 0, none⟩)]
    (w.alloc (.cells #[.int .i64 a0] 2)) eg hr1.2.1 (fun hn => by
      obtain ⟨ad, e, _⟩ := at_T53 hr1 0 (by omega) (by omega)
      refine ⟨ad, e, fun j hj => ?_⟩
      obtain ⟨ad', e', x⟩ := at_T53 (Kd.C_below hr1 hb) j (by omega) (by omega)
      obtain rfl := Option.some.inj (e.symm.trans e')
      rw [Int.toNat_natCast] at x
      exact x)
    (fun j hj W hW => validWalkers_1 a0 _ _ _ _ _ _ _ W (pw_cell_below hW cc))
  rw [any_not_all l1 z53 (wB a0)] at hcon
  have Hcon := Lib.hid hcon
  have Hw := Lib.hid hw
  have Hb := Lib.hid hb
  clear hcon hr1 eg hb hw; unfold walkersB
  generalize l1.all (wB a0) = b at Hcon ⊢
  generalize inB a0 1 60 = b1 at Hw ⊢
  cases b1
  · go_enter Try.func51, Try.ntmps51
    go_wp2_with (go_at_call 42; (with_reducible refine (Hw.out _).mono ?_); rintro e w' ⟨rfl, rfl⟩)
    go_ret
    exact ⟨ret_bool (by simp), Hb.out⟩
  · by_cases h8 : l1.length ≤ 8
    · have e1 : decide ((l1.length : Int) ≤ 8) = true := by simp; omega
      go_enter Try.func51, Try.ntmps51
      go_wp2_with (first | (go_at_call 42; (with_reducible refine (Hw.out _).mono ?_); rintro e w' ⟨rfl, rfl⟩) | (go_at_call 62; refine Hcon.out.mono ?_; rintro e w' ⟨rfl, hb1⟩))
      go_ret
      exact ⟨ret_bool (by simp [h8]), below_then Hb.out Hb.out.size hb1⟩
    · have e1 : decide ((l1.length : Int) ≤ 8) = false := by simp; omega
      go_enter Try.func51, Try.ntmps51
      go_wp2_with (go_at_call 42; (with_reducible refine (Hw.out _).mono ?_); rintro e w' ⟨rfl, rfl⟩)
      go_ret
      exact ⟨ret_bool (by simp [h8]), Hb.out⟩
end Go.Proofs.Ythkifkfnlmjafaa.G
