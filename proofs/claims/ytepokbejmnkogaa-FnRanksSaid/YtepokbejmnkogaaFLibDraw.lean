/- What is drawn from bytes: each choice lies below its bound. -/
import Derived.Test.YtepokbejmnkogaaPl
import Derived.Laws.BitsLemmas
import Derived.Test.YtepokbejmnkogaaG1
import Derived.Test.YtepokbejmnkogaaG1
import Derived.Test.YtepokbejmnkogaaG1
import Derived.Test.YtepokbejmnkogaaG1
namespace Go.Proofs.Ytepokbejmnkogaa.G
open Go.RowKit Go.Proofs.YtepokbejmnkogaaW.PrintWords Go.Proofs.YtepokbejmnkogaaW.PrintLast Go.Proofs.YtepokbejmnkogaaW.PrintMore
attribute [local go_sem] max2_int min2_int max_two min_two max_three min_three max_four min_four   -- for this text's walks alone
set_option linter.unusedVariables false
set_option linter.unusedSimpArgs false

open Go.Proofs.Ytepokbejmnkogaa.Wk Go.Proofs.Ytepokbejmnkogaa.Pl
namespace Draw
def CodeOk (l : List Int) : Prop := ∀ x ∈ l, 0 ≤ x ∧ x ≤ 255
theorem rd_bd {l : List Int} (h : CodeOk l) (i : Int) : 0 ≤ rd l i ∧ rd l i ≤ 255 := by
  show 0 ≤ l.getD i.toNat 0 ∧ l.getD i.toNat 0 ≤ 255
  by_cases hi : i.toNat < l.length
  · rw [getD_lt hi]
    exact h _ (List.getElem_mem hi)
  · have e : l.getD i.toNat 0 = 0 := by simp [List.getD, List.getElem?_eq_none (show l.length ≤ i.toNat by omega)]
    rw [e]
    omega
theorem mask (y : Int) : 0 ≤ Go.bits .and .u64 (IntKind.u64.wrap y / 1099511627776) 255 ∧ Go.bits .and .u64 (IntKind.u64.wrap y / 1099511627776) 255 ≤ 255 := by
  have hw : IntKind.u64.wrap y = y % 18446744073709551616 := by simp [IntKind.wrap, IntKind.bits, IntKind.signed]
  have h := bits_mask .u64 64 (by decide) (fun n h0 h1 => by simp only [IntKind.wrap, IntKind.bits, IntKind.signed]; simp; omega) 8 (by decide) (IntKind.u64.wrap y / 1099511627776) (by rw [hw]; omega) (by rw [hw]; omega)
  have e : ((2 : Int) ^ 8 - 1) = 255 := by decide
  have e2 : ((2 : Int) ^ 8) = 256 := by decide
  rw [e, e2] at h
  rw [h]
  omega
theorem next_t {l : List Int} (hc : CodeOk l) (a sd : Int) (N : Nat) (h0 : 0 ≤ a) (h1 : a ≤ N) (hN : N ≤ 4611686018427387904) :
    ∃ v a' sd', spec_l00Src_next.f l a sd = some (v, a', sd') ∧ (0 ≤ v ∧ v ≤ 255) ∧ 0 ≤ a' ∧ a' ≤ N + 1 := by
  unfold spec_l00Src_next.f
  have hw : wrap64 (a + 1) = a + 1 := w_id (by omega) (by omega)
  have hr := rd_bd hc a
  have hwr : wrap64 (rd l a) = rd l a := w_id (by omega) (by omega)
  simp only [hw, hwr]
  have hm : ∀ y, wrap64 (Go.bits .and .u64 (IntKind.u64.wrap y / 1099511627776) 255) = Go.bits .and .u64 (IntKind.u64.wrap y / 1099511627776) 255 := fun y => by have := mask y; exact w_id (by omega) (by omega)
  by_cases c1 : a < (l.length : Int)
  · rw [if_pos c1, if_pos h0]
    by_cases c2 : a + 1 ≤ (l.length : Int)
    · rw [if_pos c2]
      exact ⟨_, _, _, rfl, hr, by omega, by omega⟩
    · rw [if_neg c2, hm]
      exact ⟨_, _, _, rfl, mask _, by omega, by omega⟩
  · rw [if_neg c1]
    by_cases c2 : a + 1 ≤ (l.length : Int)
    · rw [if_pos c2]
      exact ⟨_, _, _, rfl, by omega, by omega, by omega⟩
    · rw [if_neg c2, hm]
      exact ⟨_, _, _, rfl, mask _, by omega, by omega⟩
theorem pick_t {l : List Int} (hc : CodeOk l) (a sd : Int) (n : Int) (N : Nat) (h0 : 0 ≤ a) (h1 : a ≤ N) (hN : N ≤ 4611686018427387000) :
    ∃ v a' sd', spec_l00Src_pick.f l a sd n = some (v, a', sd') ∧ 0 ≤ v ∧ (v < n ∨ v = 0) ∧ 0 ≤ a' ∧ a' ≤ (N + 2 : Nat) := by
  unfold spec_l00Src_pick.f
  by_cases c1 : n ≤ 1
  · rw [if_pos c1]
    exact ⟨_, _, _, rfl, by omega, Or.inr rfl, h0, by omega⟩
  · rw [if_neg c1]
    obtain ⟨v, a1, sd1, e1, hv, ha, ha2⟩ := next_t hc a sd N h0 h1 (by omega)
    rw [e1, Option.bind_some]
    by_cases c2 : n > 200
    · rw [if_pos c2]
      obtain ⟨u, a2, sd2, e2, hu, hb, hb2⟩ := next_t hc a1 sd1 (N + 1) ha (by omega) (by omega)
      rw [e2, Option.bind_some, if_neg (by omega)]
      have w1 : wrap64 (v * 256) = v * 256 := w_id (by omega) (by omega)
      have w2 : wrap64 (v * 256 + u) = v * 256 + u := w_id (by omega) (by omega)
      refine ⟨_, _, _, rfl, ?_, Or.inl ?_, hb, by show a2 ≤ ((N + 2 : Nat) : Int); omega⟩
      · show 0 ≤ Int.tmod (wrap64 (wrap64 (v * 256) + u)) n
        rw [w1, w2]
        exact Int.tmod_nonneg _ (by omega)
      · show Int.tmod (wrap64 (wrap64 (v * 256) + u)) n < n
        exact Int.tmod_lt_of_pos _ (by omega)
    · rw [if_neg c2, if_neg (by omega)]
      exact ⟨_, _, _, rfl, Int.tmod_nonneg _ hv.1, Or.inl (Int.tmod_lt_of_pos _ (by omega)), ha, by show a1 ≤ ((N + 2 : Nat) : Int); omega⟩
def RowOk (s : Nat) (row : List Int) : Prop := row.length = s ∧ ∀ x ∈ row, 0 ≤ x ∧ x < 5
def MarksOk (s : Nat) (m : List (List Int)) : Prop := m.length ≤ 5 ∧ ∀ row ∈ m, RowOk s row
theorem rows_t {l : List Int} (hc : CodeOk l) (s : Nat) (hs : s ≤ 6) : ∀ (t : Nat) (m : List (List Int)) (a sd : Int), m.length + t ≤ 5 → (∀ row ∈ m, RowOk s row) → 0 ≤ a → a ≤ (10 + 100 * m.length : Nat) →
    ∃ m' a' sd', MarksOk s m' ∧ Ev (fun k => spec_l07Drawn.l0 k s m t l a sd) ((s : Int), m', a', sd') := by
  intro t
  induction t with
  | zero =>
    intro m a sd h1 h2 h3 h4
    refine ⟨m, a, sd, ⟨by omega, h2⟩, Ev.step (fun k => spec_l07Drawn.l0.eq_2 _ _ _ _ _ _ k) ?_⟩
    simp only [if_neg (show ¬ (((0 : Nat) : Int) > 0) by omega)]
    exact Ev.now _
  | succ t ih =>
    intro m a sd h1 h2 h3 h4
    have inner : ∀ (d : Nat) (list : List Int) (a sd : Int), list.length + d = s → (∀ x ∈ list, 0 ≤ x ∧ x < 5) → 0 ≤ a → a ≤ (10 + 100 * m.length + 2 * list.length : Nat) →
        ∃ m' a' sd', MarksOk s m' ∧ Ev (fun k => spec_l07Drawn.l1 k s m ((t + 1 : Nat) : Int) list (list.length : Int) l a sd) ((s : Int), m', a', sd') := by
      intro d
      induction d with
      | zero =>
        intro list a sd g1 g2 g3 g4
        have hw : wrap64 (((t + 1 : Nat) : Int) - 1) = (t : Int) := by rw [w_id (by omega) (by omega)]; omega
        obtain ⟨m', a', sd', hm', he⟩ := ih (m ++ [list]) a sd (by simp; omega) (fun row hrow => by
          rcases List.mem_append.1 hrow with h | h
          · exact h2 row h
          · rw [List.mem_singleton.1 h]; exact ⟨by omega, g2⟩) g3 (by simp; omega)
        refine ⟨m', a', sd', hm', Ev.step (fun k => spec_l07Drawn.l1.eq_2 _ _ _ _ _ _ _ _ k) ?_⟩
        simp only [if_neg (show ¬ ((list.length : Int) < (s : Int)) by omega), if_pos (show m.length < 5864062014805 by omega), hw]
        exact he
      | succ d ihd =>
        intro list a sd g1 g2 g3 g4
        obtain ⟨v, a1, sd1, e1, v0, v1, b0, b1⟩ := pick_t hc a sd 5 _ g3 g4 (by omega)
        have hw : wrap64 ((list.length : Int) + 1) = ((list ++ [v]).length : Int) := by rw [w_id (by omega) (by omega)]; simp
        obtain ⟨m', a', sd', hm', he⟩ := ihd (list ++ [v]) a1 sd1 (by simp; omega) (fun x hx => by
          rcases List.mem_append.1 hx with h | h
          · exact g2 x h
          · rw [List.mem_singleton.1 h]; omega) b0 (by simp; omega)
        refine ⟨m', a', sd', hm', Ev.step (fun k => spec_l07Drawn.l1.eq_2 _ _ _ _ _ _ _ _ k) ?_⟩
        simp only [if_pos (show (list.length : Int) < (s : Int) by omega), e1, Option.bind_some, if_pos (show list.length < 17592186044416 by omega), hw]
        exact he
    obtain ⟨m', a', sd', hm', he⟩ := inner s [] a sd (by simp) (by simp) h3 (by simpa using h4)
    refine ⟨m', a', sd', hm', Ev.step (fun k => spec_l07Drawn.l0.eq_2 _ _ _ _ _ _ k) ?_⟩
    simp only [if_pos (show (((t + 1 : Nat) : Int) > 0) by omega)]
    exact he
theorem marks_t {l : List Int} (hc : CodeOk l) : ∃ (s : Nat) (m : List (List Int)), (1 ≤ s ∧ s ≤ 6) ∧ MarksOk s m ∧ Ev (fun k => spec_P6Marks.f k l) ((s : Int), m) := by
  obtain ⟨v, a1, sd1, e1, v0, v1, b0, b1⟩ := pick_t hc 0 0 6 0 (by omega) (by omega) (by omega)
  obtain ⟨u, a2, sd2, e2, u0, u1, c0, c1⟩ := pick_t hc a1 sd1 6 2 b0 (by omega) (by omega)
  obtain ⟨vn, rfl⟩ := Int.eq_ofNat_of_zero_le v0
  obtain ⟨un, rfl⟩ := Int.eq_ofNat_of_zero_le u0
  obtain ⟨m, a', sd', hm, he⟩ := rows_t hc (1 + vn) (by omega) un [] a2 sd2 (by simp; omega) (by simp) c0 (by simp; omega)
  refine ⟨1 + vn, m, by omega, hm, ?_⟩
  unfold spec_P6Marks.f spec_l07Drawn.f spec_l00From.f
  simp only [Option.bind_some, e1, e2]
  have hw : wrap64 (1 + (vn : Int)) = ((1 + vn : Nat) : Int) := by rw [w_id (by omega) (by omega)]; omega
  simp only [hw]
  exact Ev.bind he (Ev.now _)
theorem marks_B {s : Nat} {m : List (List Int)} (hs : 1 ≤ s ∧ s ≤ 6) (h : MarksOk s m) : (∀ x ∈ m, x.length = s) ∧ (∀ i : Nat, i < m.length → RowOk s (m.getD i [])) :=
  ⟨fun x hx => (h.2 x hx).1, fun i hi => by rw [getD_lt hi]; exact h.2 _ (List.getElem_mem hi)⟩
end Draw
end Go.Proofs.Ytepokbejmnkogaa.G
