import Derived.Test.YthbblaapmmhclaaYPl
import Derived.Laws.BitsLemmas
import Derived.Test.YthbblaapmmhclaaYG3
import Derived.Test.YthbblaapmmhclaaYG3
import Derived.Test.YthbblaapmmhclaaYG3
import Derived.Test.YthbblaapmmhclaaYG3
import Derived.Test.YthbblaapmmhclaaYG3
import Derived.Test.YthbblaapmmhclaaYG3
import Derived.Test.YthbblaapmmhclaaYG3
namespace Go.Proofs.Ythbblaapmmhclaa.G
open Go.RowKit Go.Proofs.YthbblaapmmhclaaW.PrintWords Go.Proofs.YthbblaapmmhclaaW.PrintLast Go.Proofs.YthbblaapmmhclaaW.PrintMore
attribute [local go_sem] max2_int min2_int max_two min_two max_three min_three max_four min_four
set_option linter.unusedVariables false
set_option linter.unusedSimpArgs false
open Go.Proofs.Ythbblaapmmhclaa.Wk Go.Proofs.Ythbblaapmmhclaa.Pl
namespace Draw
def CodeOk (l : List Int) : Prop := ∀ x ∈ l, 0 ≤ x ∧ x ≤ 255
theorem rd_bd {l : List Int} (h : CodeOk l) (i : Int) : 0 ≤ rd l i ∧ rd l i ≤ 255 := by
  show 0 ≤ l.getD i.toNat 0 ∧ l.getD i.toNat 0 ≤ 255
  by_cases hi : i.toNat < l.length
  · rw [getD_lt hi]
    exact h _ (List.getElem_mem hi)
  · have e : l.getD i.toNat 0 = 0 := by simp [List.getD, List.getElem?_eq_none (show l.length ≤ i.toNat by omega)]
    rw [e]
    omega
theorem mask (y : Int) : 0 ≤ Go.bits .and .u64 (IntKind.u64.wrap y / 1099511627776) 255 ∧ Go.bits .and .u64 (IntKind.u64.wrap y / 1099511627776) 255 ≤ 255 := by
  have hw : IntKind.u64.wrap y = y % 18446744073709551616 := by simp [IntKind.wrap, IntKind.bits, IntKind.signed]
  have h := bits_mask .u64 64 (by decide) (fun n h0 h1 => by simp only [IntKind.wrap, IntKind.bits, IntKind.signed]; simp; omega) 8 (by decide) (IntKind.u64.wrap y / 1099511627776) (by rw [hw]; omega) (by rw [hw]; omega)
  have e : ((2 : Int) ^ 8 - 1) = 255 := by decide
  have e2 : ((2 : Int) ^ 8) = 256 := by decide
  rw [e, e2] at h
  rw [h]
  omega
theorem next_t {l : List Int} (hc : CodeOk l) (a sd : Int) (N : Nat) (h0 : 0 ≤ a) (h1 : a ≤ N) (hN : N ≤ 4611686018427387904) :
    ∃ v a' sd', spec_l00Src_next.f l a sd = some (v, a', sd') ∧ (0 ≤ v ∧ v ≤ 255) ∧ 0 ≤ a' ∧ a' ≤ N + 1 := by
  unfold spec_l00Src_next.f
  have hw : wrap64 (a + 1) = a + 1 := w_id (by omega) (by omega)
  have hr := rd_bd hc a
  have hwr : wrap64 (rd l a) = rd l a := w_id (by omega) (by omega)
  simp only [hw, hwr]
  have hm : ∀ y, wrap64 (Go.bits .and .u64 (IntKind.u64.wrap y / 1099511627776) 255) = Go.bits .and .u64 (IntKind.u64.wrap y / 1099511627776) 255 := fun y => by have := mask y; exact w_id (by omega) (by omega)
  by_cases c1 : a < (l.length : Int)
  · rw [if_pos c1, if_pos h0]
    by_cases c2 : a + 1 ≤ (l.length : Int)
    · rw [if_pos c2]
      exact ⟨_, _, _, rfl, hr, by omega, by omega⟩
    · rw [if_neg c2, hm]
      exact ⟨_, _, _, rfl, mask _, by omega, by omega⟩
  · rw [if_neg c1]
    by_cases c2 : a + 1 ≤ (l.length : Int)
    · rw [if_pos c2]
      exact ⟨_, _, _, rfl, by omega, by omega, by omega⟩
    · rw [if_neg c2, hm]
      exact ⟨_, _, _, rfl, mask _, by omega, by omega⟩
theorem pick_t {l : List Int} (hc : CodeOk l) (a sd : Int) (n : Int) (N : Nat) (h0 : 0 ≤ a) (h1 : a ≤ N) (hN : N ≤ 4611686018427387000) :
    ∃ v a' sd', spec_l00Src_pick.f l a sd n = some (v, a', sd') ∧ 0 ≤ v ∧ (v < n ∨ v = 0) ∧ 0 ≤ a' ∧ a' ≤ (N + 2 : Nat) := by
  unfold spec_l00Src_pick.f
  by_cases c1 : n ≤ 1
  · rw [if_pos c1]
    exact ⟨_, _, _, rfl, by omega, Or.inr rfl, h0, by omega⟩
  · rw [if_neg c1]
    obtain ⟨v, a1, sd1, e1, hv, ha, ha2⟩ := next_t hc a sd N h0 h1 (by omega)
    rw [e1, Option.bind_some]
    by_cases c2 : n > 200
    · rw [if_pos c2]
      obtain ⟨u, a2, sd2, e2, hu, hb, hb2⟩ := next_t hc a1 sd1 (N + 1) ha (by omega) (by omega)
      rw [e2, Option.bind_some, if_neg (by omega)]
      have w1 : wrap64 (v * 256) = v * 256 := w_id (by omega) (by omega)
      have w2 : wrap64 (v * 256 + u) = v * 256 + u := w_id (by omega) (by omega)
      refine ⟨_, _, _, rfl, ?_, Or.inl ?_, hb, by show a2 ≤ ((N + 2 : Nat) : Int); omega⟩
      · show 0 ≤ Int.tmod (wrap64 (wrap64 (v * 256) + u)) n
        rw [w1, w2]
        exact Int.tmod_nonneg _ (by omega)
      · show Int.tmod (wrap64 (wrap64 (v * 256) + u)) n < n
        exact Int.tmod_lt_of_pos _ (by omega)
    · rw [if_neg c2, if_neg (by omega)]
      exact ⟨_, _, _, rfl, Int.tmod_nonneg _ hv.1, Or.inl (Int.tmod_lt_of_pos _ (by omega)), ha, by show a1 ≤ ((N + 2 : Nat) : Int); omega⟩
theorem p6pick_t {l : List Int} (hc : CodeOk l) (n : Int) : ∃ v, spec_P6Pick.f l n = some v ∧ 0 ≤ v ∧ (v < n ∨ v = 0) := by
  obtain ⟨v, a, sd, e, h0, h1, _⟩ := pick_t hc 0 0 n 0 (by omega) (by omega) (by omega)
  refine ⟨v, ?_, h0, h1⟩
  unfold spec_P6Pick.f spec_l00From.f
  rw [Option.bind_some, e]
  rfl
theorem one_t {l : List Int} (hc : CodeOk l) (a sd : Int) (n : Int) (N : Nat) (h0 : 0 ≤ a) (h1 : a ≤ N) (hN : N ≤ 4611686018427387000) : ∃ b a' sd', spec_l00Src_one.f l a sd n = some (b, a', sd') ∧ 0 ≤ a' ∧ a' ≤ (N + 2 : Nat) := by
  obtain ⟨v, a1, sd1, e1, v0, v1, b0, b1⟩ := pick_t hc a sd n N h0 h1 hN
  refine ⟨v == 0, a1, sd1, ?_, b0, b1⟩
  unfold spec_l00Src_one.f
  rw [e1]
  rfl
theorem drawnRow_t {l : List Int} (hc : CodeOk l) (b : Bool) : ∀ (t : Nat) (r : List Int) (a sd : Int), r.length + t ≤ 7 → (∀ x ∈ r, 0 ≤ x ∧ x ≤ 7) → 0 ≤ a → a ≤ (10 + 2 * r.length : Nat) →
    ∃ r' a' sd', r'.length = r.length + t ∧ (∀ x ∈ r', 0 ≤ x ∧ x ≤ 7) ∧ Ev (fun k => spec_l05Drawn.l0 k r b t l a sd) (r', a', sd') := by
  intro t
  induction t with
  | zero =>
    intro r a sd h1 h2 h3 h4
    refine ⟨r, a, sd, rfl, h2, Ev.step (fun k => spec_l05Drawn.l0.eq_2 _ _ _ _ _ _ k) ?_⟩
    simp only [if_neg (show ¬ (((0 : Nat) : Int) > 0) by omega)]
    exact Ev.now _
  | succ t ih =>
    intro r a sd h1 h2 h3 h4
    obtain ⟨v, a1, sd1, e1, v0, v1, b0, b1⟩ := pick_t hc a sd 8 _ h3 h4 (by omega)
    have hw : wrap64 (((t + 1 : Nat) : Int) - 1) = (t : Int) := by rw [w_id (by omega) (by omega)]; omega
    have hv : v % 256 = v := by omega
    have app : ∀ y : Int, 0 ≤ y ∧ y ≤ 7 → ∀ x ∈ r ++ [y], 0 ≤ x ∧ x ≤ 7 := fun y hy x hx => by
      rcases List.mem_append.1 hx with h | h
      · exact h2 x h
      · rw [List.mem_singleton.1 h]; exact hy
    cases b
    · obtain ⟨r', a', sd', g1, g2, g3⟩ := ih (r ++ [v]) a1 sd1 (by simp; omega) (app v (by omega)) b0 (by simp; omega)
      refine ⟨r', a', sd', by rw [g1]; simp; omega, g2, Ev.step (fun k => spec_l05Drawn.l0.eq_2 _ _ _ _ _ _ k) ?_⟩
      simp only [if_pos (show (((t + 1 : Nat) : Int) > 0) by omega), e1, Option.bind_some, Bool.false_eq_true, if_false, if_pos (show r.length < 140737488355328 by omega), hw, hv]
      exact g3
    · obtain ⟨r', a', sd', g1, g2, g3⟩ := ih (r ++ [0]) a1 sd1 (by simp; omega) (app 0 (by omega)) b0 (by simp; omega)
      refine ⟨r', a', sd', by rw [g1]; simp; omega, g2, Ev.step (fun k => spec_l05Drawn.l0.eq_2 _ _ _ _ _ _ k) ?_⟩
      simp only [if_pos (show (((t + 1 : Nat) : Int) > 0) by omega), e1, Option.bind_some, if_true, if_pos (show r.length < 140737488355328 by omega), hw]
      exact g3
theorem row_t {l : List Int} (hc : CodeOk l) : ∃ r : List Int, (1 ≤ r.length ∧ r.length ≤ 7) ∧ (∀ x ∈ r, 0 ≤ x ∧ x ≤ 7) ∧ Ev (fun k => spec_P6Row.f k l) r := by
  obtain ⟨b, a1, sd1, e1, b0, b1⟩ := one_t hc 0 0 2 0 (by omega) (by omega) (by omega)
  obtain ⟨v, a2, sd2, e2, v0, v1, c0, c1⟩ := pick_t hc a1 sd1 7 2 b0 (by omega) (by omega)
  obtain ⟨vn, rfl⟩ := Int.eq_ofNat_of_zero_le v0
  obtain ⟨r', a', sd', g1, g2, g3⟩ := drawnRow_t hc b (1 + vn) [] a2 sd2 (by simp; omega) (by simp) c0 (by simp; omega)
  refine ⟨r', by simp at g1; omega, g2, ?_⟩
  unfold spec_P6Row.f spec_l05Drawn.f spec_l00From.f
  simp only [Option.bind_some, e1, e2]
  have hw : wrap64 (1 + (vn : Int)) = ((1 + vn : Nat) : Int) := by rw [w_id (by omega) (by omega)]; omega
  simp only [hw]
  exact Ev.bind g3 (Ev.now _)
structure FewW (n : Nat) (x : S53) : Prop where
  f0 : 0 ≤ x.f0 ∧ x.f0 ≤ 4
  f1 : 1 ≤ x.f1 ∧ x.f1 ≤ 6
  f2 : 0 ≤ x.f2 ∧ x.f2 < n
  f3 : 0 ≤ x.f3 ∧ x.f3 ≤ 4
  f4 : 1 ≤ x.f4 ∧ x.f4 ≤ 6
  f5 : -7 ≤ x.f5 ∧ x.f5 ≤ 7
theorem i16_id {x : Int} (h0 : 0 ≤ x) (h1 : x ≤ 1000) : IntKind.i16.wrap x = x := by simp [IntKind.wrap, IntKind.bits, IntKind.signed]; omega
theorem i8_id {x : Int} (h0 : -100 ≤ x) (h1 : x ≤ 100) : IntKind.i8.wrap x = x := by simp [IntKind.wrap, IntKind.bits, IntKind.signed]; omega
theorem walker_t {l : List Int} (hc : CodeOk l) (n : Nat) (hn : 1 ≤ n) (hn2 : n ≤ 200) (a sd : Int) (N : Nat) (h0 : 0 ≤ a) (h1 : a ≤ N) (hN : N ≤ 1000000) :
    ∃ x a' sd', spec_l05One.f l a sd n = some (x.f0, x.f1, x.f2, x.f3, x.f4, x.f5, a', sd') ∧ FewW n x ∧ 0 ≤ a' ∧ a' ≤ (N + 12 : Nat) := by
  obtain ⟨v1, a1, s1, e1, u1, t1, b1, c1⟩ := pick_t hc a sd 5 N h0 h1 (by omega)
  obtain ⟨v2, a2, s2, e2, u2, t2, b2, c2⟩ := pick_t hc a1 s1 6 _ b1 c1 (by omega)
  obtain ⟨v3, a3, s3, e3, u3, t3, b3, c3⟩ := pick_t hc a2 s2 n _ b2 c2 (by omega)
  obtain ⟨v4, a4, s4, e4, u4, t4, b4, c4⟩ := pick_t hc a3 s3 5 _ b3 c3 (by omega)
  obtain ⟨v5, a5, s5, e5, u5, t5, b5, c5⟩ := pick_t hc a4 s4 6 _ b4 c4 (by omega)
  obtain ⟨v6, a6, s6, e6, u6, t6, b6, c6⟩ := pick_t hc a5 s5 15 _ b5 c5 (by omega)
  refine ⟨⟨v1, 1 + v2, v3, v4, 1 + v5, v6 - 7⟩, a6, s6, ?_, ⟨⟨u1, by show v1 ≤ 4; omega⟩, ⟨by show 1 ≤ 1 + v2; omega, by show 1 + v2 ≤ 6; omega⟩, ⟨u3, by show v3 < (n : Int); omega⟩, ⟨u4, by show v4 ≤ 4; omega⟩, ⟨by show 1 ≤ 1 + v5; omega, by show 1 + v5 ≤ 6; omega⟩, ⟨by show -7 ≤ v6 - 7; omega, by show v6 - 7 ≤ 7; omega⟩⟩, b6, by omega⟩
  unfold spec_l05One.f spec_l00Max.f
  have hm : (if (1 : Int) > (n : Int) then some (1 : Int) else some (n : Int)) = some (n : Int) := by rw [if_neg (by omega)]
  simp only [e1, e2, hm, e3, e4, e5, e6, Option.bind_some]
  rw [w_id (x := 1 + v2) (by omega) (by omega), w_id (x := 1 + v5) (by omega) (by omega), w_id (x := v6 - 7) (by omega) (by omega), i16_id u1 (by omega), i16_id (x := 1 + v2) (by omega) (by omega), i16_id u3 (by omega), i16_id u4 (by omega), i16_id (x := 1 + v5) (by omega) (by omega), i8_id (by omega) (by omega)]
theorem walkersLoop_t {l : List Int} (hc : CodeOk l) (n : Nat) (hn : 1 ≤ n) (hn2 : n ≤ 200) : ∀ (t : Nat) (ws : List S53) (a sd : Int), ws.length + t ≤ 3 → (∀ x ∈ ws, FewW n x) → 0 ≤ a → a ≤ (10 + 12 * ws.length : Nat) →
    ∃ ws', ws'.length ≤ 3 ∧ (∀ x ∈ ws', FewW n x) ∧ Ev (fun k => spec_P6Walkers.l0 k n ws t l a sd) ws' := by
  intro t
  induction t with
  | zero =>
    intro ws a sd h1 h2 h3 h4
    refine ⟨ws, by omega, h2, Ev.step (fun k => spec_P6Walkers.l0.eq_2 _ _ _ _ _ _ k) ?_⟩
    simp only [if_neg (show ¬ (((0 : Nat) : Int) > 0) by omega)]
    exact Ev.now _
  | succ t ih =>
    intro ws a sd h1 h2 h3 h4
    obtain ⟨x, a1, sd1, e1, hx, b0, b1⟩ := walker_t hc n hn hn2 a sd _ h3 h4 (by omega)
    have hw : wrap64 (((t + 1 : Nat) : Int) - 1) = (t : Int) := by rw [w_id (by omega) (by omega)]; omega
    obtain ⟨ws', g1, g2, g3⟩ := ih (ws ++ [x]) a1 sd1 (by simp; omega) (fun y hy => by
      rcases List.mem_append.1 hy with h | h
      · exact h2 y h
      · rw [List.mem_singleton.1 h]; exact hx) b0 (by simp; omega)
    refine ⟨ws', g1, g2, Ev.step (fun k => spec_P6Walkers.l0.eq_2 _ _ _ _ _ _ k) ?_⟩
    simp only [if_pos (show (((t + 1 : Nat) : Int) > 0) by omega), e1, Option.bind_some, if_pos (show ws.length < 11728124029610 by omega), hw]
    exact g3
theorem walkers_t {l : List Int} (hc : CodeOk l) (n : Nat) (hn : 1 ≤ n) (hn2 : n ≤ 200) : ∃ ws : List S53, ws.length ≤ 3 ∧ (∀ x ∈ ws, FewW n x) ∧ Ev (fun k => spec_P6Walkers.f k l n) ws := by
  obtain ⟨v, a1, sd1, e1, v0, v1, b0, b1⟩ := pick_t hc 0 0 4 0 (by omega) (by omega) (by omega)
  obtain ⟨vn, rfl⟩ := Int.eq_ofNat_of_zero_le v0
  obtain ⟨ws', g1, g2, g3⟩ := walkersLoop_t hc n hn hn2 vn [] a1 sd1 (by simp; omega) (by simp) b0 (by simp; omega)
  refine ⟨ws', g1, g2, ?_⟩
  unfold spec_P6Walkers.f spec_l00From.f
  simp only [Option.bind_some, e1]
  exact g3
end Draw
end Go.Proofs.Ythbblaapmmhclaa.G
