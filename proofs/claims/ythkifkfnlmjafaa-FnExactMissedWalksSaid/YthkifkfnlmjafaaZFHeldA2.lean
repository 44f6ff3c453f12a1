import Derived.Test.YthkifkfnlmjafaaZG0
import Derived.Test.YthkifkfnlmjafaaZWk
import Derived.Test.YthkifkfnlmjafaaZPl
namespace Go.Proofs.Ythkifkfnlmjafaa.G
open Go.RowKit Go.Proofs.YthkifkfnlmjafaaW.PrintWords Go.Proofs.YthkifkfnlmjafaaW.PrintLast Go.Proofs.YthkifkfnlmjafaaW.PrintMore
attribute [local go_sem] max2_int min2_int max_two min_two max_three min_three max_four min_four
set_option linter.unusedVariables false
set_option linter.unusedSimpArgs false
open Go.Proofs.Ythkifkfnlmjafaa.Wk Go.Proofs.Ythkifkfnlmjafaa.Pl
namespace HeldA2
def ok (l : List S64) (a : Int) : Bool := (List.range l.length).all fun j => ((l.getD j z64).f0 == a + 2 * j) && ((l.getD j z64).f1 == a + 2 * j + 1)
theorem ok_at {l : List S64} {a : Int} (h : ok l a = true) (j : Nat) (hj : j < l.length) : (l.getD j z64).f0 = a + 2 * j ∧ (l.getD j z64).f1 = a + 2 * j + 1 := by
  have := List.all_eq_true.1 h j (List.mem_range.2 hj)
  simpa [Bool.and_eq_true] using this
end HeldA2
def laws_heldInt64A2S.f (l0 : List S64) (a1 : Int) : Option Int := if (HeldA2.ok l0 a1 = true ∧ 0 ≤ a1 ∧ a1 ≤ 1152921504606846976 ∧ l0.length ≤ 1099511627776) then some (a1 + 2 * l0.length) else none
set_option maxHeartbeats 2000000 in
set_option maxRecDepth 100000 in
theorem laws_heldInt64A2S.calls (A0 : Option Addr) (c0 : Nat) (l0 : List S64) (a1 : Int) (r : Int) (w : World) (hr0 : Kd.C k64 w A0 l0.length l0) (hc0 : l0.length ≤ c0) (h : laws_heldInt64A2S.f l0 a1 = some r) :
    Calls Try.prog 21 #[.slice A0 l0.length c0, .int .i64 a1] w fun e w' => e = .returned (.int .i64 r) ∧ Below w.heap.size w w' := by
  unfold laws_heldInt64A2S.f at h
  by_cases hg : HeldA2.ok l0 a1 = true ∧ 0 ≤ a1 ∧ a1 ≤ 1152921504606846976 ∧ l0.length ≤ 1099511627776
  case neg => rw [if_neg hg] at h; cases h
  rw [if_pos hg] at h
  obtain rfl := Option.some.inj h
  obtain ⟨hok, h0, h1, hl⟩ := hg
  have HR0 := Aside0.mk hr0; have HOK := Lib.hid (HeldA2.ok_at hok)
  clear hr0 h hok; go_enter Try.func21, Try.ntmps21
  go_wp2
  go_loopg [1, 5] l0.length (fun gg s1 s5 wr => ∃ kk : Nat, kk ≤ l0.length ∧ l0.length - kk ≤ gg ∧ s1 = .int .i64 (a1 + 2 * kk) ∧ s5 = .int .i64 kk ∧ Aside0 (Below w.heap.size w wr))
  case atStart => exact ⟨0, Nat.zero_le _, by omega, by simp, rfl, ⟨Below.refl _ _⟩⟩
  case round =>
    obtain ⟨kk, hk, hgg, rfl, rfl, HB⟩ := hrel
    by_cases hlt : kk < l0.length
    · have hlt' : (kk : Int) < (l0.length : Int) := by omega
      obtain ⟨ad, rfl, x0, x1⟩ := at_T64 HR0.out kk (by omega) (by omega)
      rw [Int.toNat_natCast] at x0 x1
      rw [show rd_T64 l0 (kk : Int) = l0.getD kk z64 from rfl] at x0 x1
      obtain ⟨y0, y1⟩ := HOK.out kk hlt
      rw [y0] at x0
      rw [y1] at x1
      replace x0 := pw_cell_below HB.out x0
      replace x1 := pw_cell_below HB.out x1
      clear y0 y1; have X0 := Aside0.mk x0; have X1 := Aside0.mk x1; clear x0 x1; obtain ⟨s, hs⟩ : ∃ s : Int, s = a1 + 2 * kk := ⟨_, rfl⟩
      rw [← hs] at X0 X1 ⊢
      have hs0 : 0 ≤ s := by omega
      have hs1 : s ≤ 2305843009213693952 := by omega
      have Hs := Lib.hid hs
      clear hs; go_wp2
      go_loopg [1, 6] 2 (fun gg s1 s6 wq => ∃ jj : Int, (jj = 0 ∨ jj = 1 ∨ jj = 2) ∧ (2 - jj).toNat ≤ gg ∧ s1 = .int .i64 (s + jj) ∧ s6 = .int .i64 jj ∧ Aside0 (Below wr.heap.size wr wq))
      case atStart => exact ⟨0, Or.inl rfl, by decide, by simp, rfl, ⟨by first | exact Below.refl _ _ | exact below_drew1 (Below.refl _ _)⟩⟩
      case round =>
        obtain ⟨jj, hj, hgj, rfl, rfl, HQ⟩ := hrel
        have x0 := pw_cell_below HQ.out X0.out
        have x1 := pw_cell_below HQ.out X1.out
        rcases hj with rfl | rfl | rfl
        · rw [Int.add_zero]
          have n0 : (s != s) = false := by simp
          go_wp2
          go_roundg 1
          case measure => omega
          case rel => exact ⟨1, by omega, by decide, by first | rfl | go_num, by first | rfl | go_num, HQ⟩
        · have n1 : (s + 1 != s + 1) = false := by simp
          go_wp2
          go_roundg 0
          case measure => omega
          case rel => exact ⟨2, by omega, by decide, by first | rfl | go_num | (simp only [Value.int.injEq, true_and]; omega), by first | rfl | go_num, HQ⟩
        · go_wp2
          go_roundg (l0.length - (kk + 1))
          case measure => omega
          case rel => exact ⟨kk + 1, by omega, by omega, by rw [Hs.out]; simp only [Value.int.injEq, true_and]; omega, by go_num, ⟨below_then HB.out HB.out.size HQ.out⟩⟩
    · obtain rfl : kk = l0.length := by omega
      have hltz : ¬ (l0.length : Int) < (l0.length : Int) := by omega
      go_wp2
      go_ret
      exact ⟨rfl, HB.out⟩
end Go.Proofs.Ythkifkfnlmjafaa.G
