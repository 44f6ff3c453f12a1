/- slices.IndexFunc and slices.ContainsFunc at []int64: the first place where a predicate answers yes. The predicate: any function value that answers so and turns nothing that was there. -/
import Derived.Test.YtljkamjdpjaooaaG0
import Derived.Test.YtljkamjdpjaooaaWk
namespace Go.Proofs.Ytljkamjdpjaooaa.G
open Go.RowKit Go.Proofs.YtljkamjdpjaooaaW.PrintWords Go.Proofs.YtljkamjdpjaooaaW.PrintLast Go.Proofs.YtljkamjdpjaooaaW.PrintMore
attribute [local go_sem] max2_int min2_int max_two min_two max_three min_three max_four min_four   -- for this text's walks alone
set_option linter.unusedVariables false
set_option linter.unusedSimpArgs false

open Go.Proofs.Ytljkamjdpjaooaa.Wk
namespace ContI64

set_option maxHeartbeats 2000000 in
theorem indexFunc (A : Option Addr) (n c : Nat) (V : Nat → Value) (p : Nat → Bool) (g : Nat) (cb : Array Value) (w : World) (eg : ∀ args w, (callFunc g args).run Try.prog w = .ok (.enter g args) w) (hn : n ≤ 9223372036854775807)
    (hc : 0 < n → ∃ ad, A = some ad ∧ ∀ j, j < n → w.cell? (ad.add j) = some (V j))
    (hp : ∀ j, j < n → ∀ W, Below w.heap.size w W → Calls Try.prog g (#[V j] ++ cb) W fun e W' => e = .returned (.bool (p j)) ∧ Below W.heap.size W W') :
    Calls Try.prog 49 #[.slice A n c, .func (.func g) #[] cb] w fun e w' => e = .returned (.int .i64 (wkFirst p n)) ∧ Below w.heap.size w w' := by
  have HP := Aside0.mk hp
  have HC := Aside0.mk hc
  clear hp hc
  go_enter Try.func49, Try.ntmps49
  go_wp2
  go_loopg [5, 8] n (fun gg _ s8 wr => ∃ kk : Nat, kk ≤ n ∧ n - kk ≤ gg ∧ s8 = .int .i64 kk ∧ Aside0 (Below w.heap.size w wr) ∧ Aside0 (∀ j, j < kk → p j = false))
  case atStart => exact ⟨0, Nat.zero_le _, by omega, rfl, ⟨Below.refl _ _⟩, ⟨fun j hj => absurd hj (Nat.not_lt_zero _)⟩⟩
  case round =>
    obtain ⟨kk, hkk, hg, rfl, HB, HA⟩ := hrel
    by_cases hlt : kk < n
    · have hltz : (kk : Int) < (n : Int) := by omega
      obtain ⟨ad, rfl, hcell⟩ := HC.out (by omega)
      have x0 := pw_cell_below HB.out (hcell kk hlt)
      clear hcell
      have hcall := HP.out kk hlt
      have Hcall := Aside0.mk hcall
      clear hcall
      cases hq : p kk with
      | true =>
        have Hq := Lib.hid hq
        go_wp2_with (go_at_fn g; refine (Hcall.out _ HB.out).mono ?_; rintro e w' ⟨rfl, hb1⟩)
        go_ret
        exact ⟨ret_int (wkFirst_hit hlt Hq.out HA.out), below_then HB.out HB.out.size hb1⟩
      | false =>
        have Hq := Lib.hid hq
        go_wp2_with (go_at_fn g; refine (Hcall.out _ HB.out).mono ?_; rintro e w' ⟨rfl, hb1⟩)
        go_roundg (n - (kk + 1))
        case measure => omega
        case rel =>
          refine ⟨kk + 1, by omega, by omega, by go_num, ⟨below_then HB.out HB.out.size hb1⟩, ⟨fun j hj => ?_⟩⟩
          by_cases e : j = kk
          · rw [e]; exact Hq.out
          · exact HA.out j (by omega)
    · have hltz : ¬ (kk : Int) < (n : Int) := by omega
      obtain rfl : kk = n := by omega
      go_wp2
      go_ret
      exact ⟨ret_int (wkFirst_miss HA.out), HB.out⟩

set_option maxHeartbeats 1000000 in
theorem containsFunc (A : Option Addr) (n c : Nat) (V : Nat → Value) (p : Nat → Bool) (g : Nat) (cb : Array Value) (w : World) (eg : ∀ args w, (callFunc g args).run Try.prog w = .ok (.enter g args) w) (hn : n ≤ 9223372036854775807)
    (hc : 0 < n → ∃ ad, A = some ad ∧ ∀ j, j < n → w.cell? (ad.add j) = some (V j))
    (hp : ∀ j, j < n → ∀ W, Below w.heap.size w W → Calls Try.prog g (#[V j] ++ cb) W fun e W' => e = .returned (.bool (p j)) ∧ Below W.heap.size W W') :
    Calls Try.prog 45 #[.slice A n c, .func (.func g) #[] cb] w fun e w' => e = .returned (.bool ((List.range n).any p)) ∧ Below w.heap.size w w' := by
  have hcon := indexFunc A n c V p g cb w eg hn hc hp
  have hv := wkFirst_nonneg p n
  clear hc hp eg
  generalize hd : (List.range n).any p = b at hv ⊢
  clear hd
  generalize wkFirst p n = x at hv hcon
  have Hv := Lib.hid hv
  clear hv
  go_enter Try.func45, Try.ntmps45
  go_wp2_with (go_at_call 49; refine hcon.mono ?_; rintro e w' ⟨rfl, hb⟩)
  go_ret
  exact ⟨ret_bool Hv.out, hb⟩
end ContI64
end Go.Proofs.Ytljkamjdpjaooaa.G
