/- What is drawn from bytes: each choice lies below its bound. -/
import Derived.Test.YtljkamjdpjaooaaPl
import Derived.Laws.BitsLemmas
import Derived.Test.YtljkamjdpjaooaaG3
import Derived.Test.YtljkamjdpjaooaaG3
namespace Go.Proofs.Ytljkamjdpjaooaa.G
open Go.RowKit Go.Proofs.YtljkamjdpjaooaaW.PrintWords Go.Proofs.YtljkamjdpjaooaaW.PrintLast Go.Proofs.YtljkamjdpjaooaaW.PrintMore
attribute [local go_sem] max2_int min2_int max_two min_two max_three min_three max_four min_four   -- for this text's walks alone
set_option linter.unusedVariables false
set_option linter.unusedSimpArgs false

open Go.Proofs.Ytljkamjdpjaooaa.Wk Go.Proofs.Ytljkamjdpjaooaa.Pl
namespace Draw
def CodeOk (l : List Int) : Prop := ∀ x ∈ l, 0 ≤ x ∧ x ≤ 255
theorem rd_bd {l : List Int} (h : CodeOk l) (i : Int) : 0 ≤ rd l i ∧ rd l i ≤ 255 := by
  show 0 ≤ l.getD i.toNat 0 ∧ l.getD i.toNat 0 ≤ 255
  by_cases hi : i.toNat < l.length
  · rw [getD_lt hi]
    exact h _ (List.getElem_mem hi)
  · have e : l.getD i.toNat 0 = 0 := by simp [List.getD, List.getElem?_eq_none (show l.length ≤ i.toNat by omega)]
    rw [e]
    omega
theorem mask (y : Int) : 0 ≤ Go.bits .and .u64 (IntKind.u64.wrap y / 1099511627776) 255 ∧ Go.bits .and .u64 (IntKind.u64.wrap y / 1099511627776) 255 ≤ 255 := by
  have hw : IntKind.u64.wrap y = y % 18446744073709551616 := by simp [IntKind.wrap, IntKind.bits, IntKind.signed]
  have h := bits_mask .u64 64 (by decide) (fun n h0 h1 => by simp only [IntKind.wrap, IntKind.bits, IntKind.signed]; simp; omega) 8 (by decide) (IntKind.u64.wrap y / 1099511627776) (by rw [hw]; omega) (by rw [hw]; omega)
  have e : ((2 : Int) ^ 8 - 1) = 255 := by decide
  have e2 : ((2 : Int) ^ 8) = 256 := by decide
  rw [e, e2] at h
  rw [h]
  omega
theorem next_t {l : List Int} (hc : CodeOk l) (a sd : Int) (N : Nat) (h0 : 0 ≤ a) (h1 : a ≤ N) (hN : N ≤ 4611686018427387904) :
    ∃ v a' sd', spec_l00Src_next.f l a sd = some (v, a', sd') ∧ (0 ≤ v ∧ v ≤ 255) ∧ 0 ≤ a' ∧ a' ≤ N + 1 := by
  unfold spec_l00Src_next.f
  have hw : wrap64 (a + 1) = a + 1 := w_id (by omega) (by omega)
  have hr := rd_bd hc a
  have hwr : wrap64 (rd l a) = rd l a := w_id (by omega) (by omega)
  simp only [hw, hwr]
  have hm : ∀ y, wrap64 (Go.bits .and .u64 (IntKind.u64.wrap y / 1099511627776) 255) = Go.bits .and .u64 (IntKind.u64.wrap y / 1099511627776) 255 := fun y => by have := mask y; exact w_id (by omega) (by omega)
  by_cases c1 : a < (l.length : Int)
  · rw [if_pos c1, if_pos h0]
    by_cases c2 : a + 1 ≤ (l.length : Int)
    · rw [if_pos c2]
      exact ⟨_, _, _, rfl, hr, by omega, by omega⟩
    · rw [if_neg c2, hm]
      exact ⟨_, _, _, rfl, mask _, by omega, by omega⟩
  · rw [if_neg c1]
    by_cases c2 : a + 1 ≤ (l.length : Int)
    · rw [if_pos c2]
      exact ⟨_, _, _, rfl, by omega, by omega, by omega⟩
    · rw [if_neg c2, hm]
      exact ⟨_, _, _, rfl, mask _, by omega, by omega⟩
theorem pick_t {l : List Int} (hc : CodeOk l) (a sd : Int) (n : Int) (N : Nat) (h0 : 0 ≤ a) (h1 : a ≤ N) (hN : N ≤ 4611686018427387000) :
    ∃ v a' sd', spec_l00Src_pick.f l a sd n = some (v, a', sd') ∧ 0 ≤ v ∧ (v < n ∨ v = 0) ∧ 0 ≤ a' ∧ a' ≤ (N + 2 : Nat) := by
  unfold spec_l00Src_pick.f
  by_cases c1 : n ≤ 1
  · rw [if_pos c1]
    exact ⟨_, _, _, rfl, by omega, Or.inr rfl, h0, by omega⟩
  · rw [if_neg c1]
    obtain ⟨v, a1, sd1, e1, hv, ha, ha2⟩ := next_t hc a sd N h0 h1 (by omega)
    rw [e1, Option.bind_some]
    by_cases c2 : n > 200
    · rw [if_pos c2]
      obtain ⟨u, a2, sd2, e2, hu, hb, hb2⟩ := next_t hc a1 sd1 (N + 1) ha (by omega) (by omega)
      rw [e2, Option.bind_some, if_neg (by omega)]
      have w1 : wrap64 (v * 256) = v * 256 := w_id (by omega) (by omega)
      have w2 : wrap64 (v * 256 + u) = v * 256 + u := w_id (by omega) (by omega)
      refine ⟨_, _, _, rfl, ?_, Or.inl ?_, hb, by show a2 ≤ ((N + 2 : Nat) : Int); omega⟩
      · show 0 ≤ Int.tmod (wrap64 (wrap64 (v * 256) + u)) n
        rw [w1, w2]
        exact Int.tmod_nonneg _ (by omega)
      · show Int.tmod (wrap64 (wrap64 (v * 256) + u)) n < n
        exact Int.tmod_lt_of_pos _ (by omega)
    · rw [if_neg c2, if_neg (by omega)]
      exact ⟨_, _, _, rfl, Int.tmod_nonneg _ hv.1, Or.inl (Int.tmod_lt_of_pos _ (by omega)), ha, by show a1 ≤ ((N + 2 : Nat) : Int); omega⟩
end Draw
end Go.Proofs.Ytljkamjdpjaooaa.G
