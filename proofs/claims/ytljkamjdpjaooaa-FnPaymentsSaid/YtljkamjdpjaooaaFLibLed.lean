/- What is drawn of ledgers and nets from bytes. -/
import Derived.Test.YtljkamjdpjaooaaPl
import Derived.Test.YtljkamjdpjaooaaFLibDraw
import Derived.Test.YtljkamjdpjaooaaG4
import Derived.Test.YtljkamjdpjaooaaG4
import Derived.Test.YtljkamjdpjaooaaG4
import Derived.Test.YtljkamjdpjaooaaG3
import Derived.Test.YtljkamjdpjaooaaG3
namespace Go.Proofs.Ytljkamjdpjaooaa.G
open Go.RowKit Go.Proofs.YtljkamjdpjaooaaW.PrintWords Go.Proofs.YtljkamjdpjaooaaW.PrintLast Go.Proofs.YtljkamjdpjaooaaW.PrintMore
attribute [local go_sem] max2_int min2_int max_two min_two max_three min_three max_four min_four   -- for this text's walks alone
set_option linter.unusedVariables false
set_option linter.unusedSimpArgs false

open Go.Proofs.Ytljkamjdpjaooaa.Wk Go.Proofs.Ytljkamjdpjaooaa.Pl Draw
namespace Led
theorem l16 {x : Int} (h0 : 0 ≤ x) (h1 : x ≤ 1000) : IntKind.i16.wrap x = x := by simp [IntKind.wrap, IntKind.bits, IntKind.signed]; omega
theorem l8 {x : Int} (h0 : -100 ≤ x) (h1 : x ≤ 100) : IntKind.i8.wrap x = x := by simp [IntKind.wrap, IntKind.bits, IntKind.signed]; omega
abbrev Ent := S46
structure EOk (e : Ent) : Prop where
  d0 : 0 ≤ e.f0
  d1 : e.f0 ≤ 100
  f0 : 0 ≤ e.f1
  f2 : e.f1 ≤ 2
  t0 : 0 ≤ e.f2
  t2 : e.f2 ≤ 2
  w0 : 0 ≤ e.f3
  w4 : e.f3 ≤ 4
  n1 : 1 ≤ e.f4
  n6 : e.f4 ≤ 6
  ft : (e.f3 < 3 ∧ e.f1 ≠ e.f2) ∨ (3 ≤ e.f3 ∧ e.f1 = e.f2)
structure LedOk (es : List Ent) : Prop where
  each : ∀ e ∈ es, EOk e
  len : es.length ≤ 7
  up : es.Pairwise fun x y => x.f0 ≤ y.f0
theorem one_e {l : List Int} (hc : CodeOk l) (a sd day : Int) (N : Nat) (h0 : 0 ≤ a) (h1 : a ≤ N) (hN : N ≤ 1000000) (d0 : 0 ≤ day) (d1 : day ≤ 100) :
    ∃ (e : Ent) (a' sd' : Int), spec_l06One.f l a sd 3 day = some (e.f0, e.f1, e.f2, e.f3, e.f4, a', sd') ∧ EOk e ∧ e.f0 = day ∧ 0 ≤ a' ∧ a' ≤ (N + 8 : Nat) := by
  unfold spec_l06One.f
  obtain ⟨v1, a1, s1, e1, p0, p1, q0, q1⟩ := pick_t hc a sd 3 N h0 h1 (by omega)
  rw [e1, Option.bind_some]
  obtain ⟨v2, a2, s2, e2, p2, p3, q2, q3⟩ := pick_t hc a1 s1 5 (N + 2) q0 q1 (by omega)
  simp only
  rw [e2, Option.bind_some]
  obtain ⟨v3, a3, s3, e3, p4, p5, q4, q5⟩ := pick_t hc a2 s2 6 (N + 2 + 2) q2 q3 (by omega)
  simp only
  rw [e3, Option.bind_some]
  simp only
  have hw1 : wrap64 (3 - 1) = 2 := by unfold wrap64; omega
  obtain ⟨v4, a4, s4, e4, p6, p7, q6, q7⟩ := pick_t hc a3 s3 2 (N + 2 + 2 + 2) q4 q5 (by omega)
  have i1 : IntKind.i16.wrap day = day := l16 (by omega) (by omega)
  have i2 : IntKind.i8.wrap v1 = v1 := l8 (by omega) (by omega)
  have i3 : wrap64 v1 = v1 := w_id (by omega) (by omega)
  have i4 : wrap64 (v1 + 1) = v1 + 1 := w_id (by omega) (by omega)
  have i5 : wrap64 (1 + v3) = 1 + v3 := w_id (by omega) (by omega)
  have i6 : IntKind.i16.wrap (1 + v3) = 1 + v3 := l16 (by omega) (by omega)
  have i7 : v2 % 256 = v2 := by omega
  rw [i1, i2, i3, i4, i5, i6, i7, hw1, e4, Option.bind_some]
  simp only
  have i8 : wrap64 (v1 + 1 + v4) = v1 + 1 + v4 := w_id (by omega) (by omega)
  have i9 : Int.tmod (v1 + 1 + v4) 3 = (v1 + 1 + v4) % 3 := Int.tmod_eq_emod_of_nonneg (by omega)
  rw [i8, i9]
  have i10 : IntKind.i8.wrap ((v1 + 1 + v4) % 3) = (v1 + 1 + v4) % 3 := l8 (by omega) (by omega)
  rw [i10]
  by_cases c : v2 < 3
  · rw [if_pos c, if_neg (by omega)]
    exact ⟨⟨day, v1, (v1 + 1 + v4) % 3, v2, 1 + v3⟩, a4, s4, rfl, ⟨d0, d1, p0, by simp only; omega, by simp only; omega, by simp only; omega, p2, by simp only; omega, by simp only; omega, by simp only; omega, by simp only; omega⟩, rfl, q6, by omega⟩
  · rw [if_neg c]
    exact ⟨⟨day, v1, v1, v2, 1 + v3⟩, a3, s3, rfl, ⟨d0, d1, p0, by simp only; omega, by simp only; omega, by simp only; omega, p2, by simp only; omega, by simp only; omega, by simp only; omega, Or.inr ⟨by simp only; omega, rfl⟩⟩, rfl, q4, by omega⟩
theorem drawn_e {l : List Int} (hc : CodeOk l) : ∀ (t : Nat) (es : List Ent) (day a sd : Int), es.length + t ≤ 7 → (∀ e ∈ es, EOk e) → (es.Pairwise fun x y => x.f0 ≤ y.f0) → (∀ e ∈ es, e.f0 ≤ day) → 0 ≤ day → day ≤ (2 + 2 * es.length : Nat) → 0 ≤ a → a ≤ (10 + 12 * es.length : Nat) →
    ∃ (es' : List Ent) (a' sd' : Int), LedOk es' ∧ Ev (fun k => spec_l06Drawn.l0 k 3 es day (t : Int) l a sd) (es', a', sd') := by
  intro t
  induction t with
  | zero =>
    intro es day a sd h1 h2 h3 h4 h5 h6 h7 h8
    refine ⟨es, a, sd, ⟨h2, by omega, h3⟩, Ev.step (f := fun _ => some (es, a, sd)) (fun k => by simp only [spec_l06Drawn.l0]; rw [if_neg (by omega)]) (Ev.now _)⟩
  | succ t ih =>
    intro es day a sd h1 h2 h3 h4 h5 h6 h7 h8
    obtain ⟨e, a1, s1, e1, hok, hd, q0, q1⟩ := one_e hc a sd day _ h7 h8 (by omega) h5 (by omega)
    obtain ⟨v, a2, s2, e2, p0, p1, q2, q3⟩ := pick_t hc a1 s1 3 _ q0 q1 (by omega)
    have hday : wrap64 (day + v) = day + v := w_id (by omega) (by omega)
    have ht : wrap64 (((t + 1 : Nat) : Int) - 1) = (t : Int) := by rw [w_id (by omega) (by omega)]; omega
    obtain ⟨es', a', sd', hes, hev⟩ := ih (es ++ [e]) (day + v) a2 s2 (by simp; omega) (fun x hx => by
        rcases List.mem_append.1 hx with hx | hx
        · exact h2 x hx
        · rw [List.mem_singleton.1 hx]; exact hok) (by
        rw [List.pairwise_append]
        exact ⟨h3, List.pairwise_singleton _ _, fun x hx y hy => by rw [List.mem_singleton.1 hy, hd]; exact h4 x hx⟩) (fun x hx => by
        rcases List.mem_append.1 hx with hx | hx
        · have := h4 x hx; omega
        · rw [List.mem_singleton.1 hx, hd]; omega) (by omega) (by rw [List.length_append, List.length_singleton]; omega) q2 (by rw [List.length_append, List.length_singleton]; omega)
    refine ⟨es', a', sd', hes, Ev.step (fun k => ?_) hev⟩
    simp only [spec_l06Drawn.l0]
    rw [if_pos (by omega), e1, Option.bind_some, if_pos (by omega)]
    simp only
    rw [e2, Option.bind_some, hday, ht]
theorem ledger_t {l : List Int} (hc : CodeOk l) : ∃ es : List Ent, LedOk es ∧ Ev (fun k => spec_A2Ledger.f k l) es := by
  unfold spec_A2Ledger.f spec_l00From.f spec_l06Drawn.f
  simp only [Option.bind_some]
  obtain ⟨v, a1, s1, e1, p0, p1, q0, q1⟩ := pick_t hc 0 0 3 0 (by omega) (by omega) (by omega)
  rw [e1]
  simp only [Option.bind_some]
  obtain ⟨u, a2, s2, e2, p2, p3, q2, q3⟩ := pick_t hc a1 s1 8 2 q0 (by omega) (by omega)
  rw [e2]
  simp only [Option.bind_some]
  obtain ⟨es, a', sd', hes, hev⟩ := drawn_e hc u.toNat [] v a2 s2 (by simp; omega) (by simp) List.Pairwise.nil (by simp) p0 (by simp; omega) q2 (by simp; omega)
  rw [Int.toNat_of_nonneg p2] at hev
  exact ⟨es, hes, Ev.bind hev (Ev.now _)⟩
structure NetOk (l : List Int) : Prop where
  n1 : 1 ≤ l.length
  n6 : l.length ≤ 6
  b : ∀ x ∈ l, -1000000 ≤ x ∧ x ≤ 1000000
  s : l.sum = 0
theorem among_t {l : List Int} (hc : CodeOk l) (a sd : Int) (N : Nat) (h0 : 0 ≤ a) (h1 : a ≤ N) (hN : N ≤ 1000000) :
    ∃ v a' sd', spec_l00Src_among.f l a sd [0, 1, 2, 3, 5, (-1), (-2), (-3), (-5), 1000] = some (v, a', sd') ∧ (-5 ≤ v ∧ v ≤ 1000) ∧ 0 ≤ a' ∧ a' ≤ (N + 2 : Nat) := by
  unfold spec_l00Src_among.f
  obtain ⟨v, a1, s1, e1, p0, p1, q0, q1⟩ := pick_t hc a sd (([0, 1, 2, 3, 5, (-1), (-2), (-3), (-5), 1000] : List Int).length : Int) N h0 h1 (by omega)
  have hlen : (([0, 1, 2, 3, 5, (-1), (-2), (-3), (-5), 1000] : List Int).length : Int) = 10 := rfl
  rw [e1, Option.bind_some, if_pos p0, if_pos (by omega)]
  refine ⟨_, a1, s1, rfl, ?_, q0, q1⟩
  have hv : v < 10 := by omega
  have hm : ∀ j : Nat, j < 10 → -5 ≤ ([0, 1, 2, 3, 5, (-1), (-2), (-3), (-5), 1000] : List Int).getD j 0 ∧ ([0, 1, 2, 3, 5, (-1), (-2), (-3), (-5), 1000] : List Int).getD j 0 ≤ 1000 := by decide
  exact hm v.toNat (by omega)
theorem netsLoop_t {l : List Int} (hc : CodeOk l) : ∀ (t : Nat) (xs : List Int) (a sd : Int), xs.length + t ≤ 5 → (∀ x ∈ xs, -5 ≤ x ∧ x ≤ 1000) → -5 * (xs.length : Int) ≤ xs.sum → xs.sum ≤ 1000 * (xs.length : Int) → 0 ≤ a → a ≤ (10 + 2 * xs.length : Nat) →
    ∃ r : List Int, NetOk r ∧ Ev (fun k => spec_A2Nets.l0 k xs xs.sum (t : Int) l a sd) r := by
  intro t
  induction t with
  | zero =>
    intro xs a sd h1 h2 h3 h4 h5 h6
    have hw : wrap64 (-xs.sum) = -xs.sum := w_id (by omega) (by omega)
    refine ⟨xs ++ [-xs.sum], ⟨by simp, by simp; omega, fun x hx => ?_, by rw [List.sum_append]; simp; omega⟩, Ev.step (f := fun _ => some (xs ++ [-xs.sum])) (fun k => by simp only [spec_A2Nets.l0]; rw [if_neg (by omega), if_pos (by omega), hw]) (Ev.now _)⟩
    rcases List.mem_append.1 hx with hx | hx
    · have := h2 x hx; omega
    · rw [List.mem_singleton.1 hx]; omega
  | succ t ih =>
    intro xs a sd h1 h2 h3 h4 h5 h6
    obtain ⟨v, a1, s1, e1, p, q0, q1⟩ := among_t hc a sd _ h5 h6 (by omega)
    have hs : wrap64 (xs.sum + v) = (xs ++ [v]).sum := by rw [w_id (by omega) (by omega), List.sum_append]; simp
    have hs2 : (xs ++ [v]).sum = xs.sum + v := by rw [List.sum_append]; simp
    have ht : wrap64 (((t + 1 : Nat) : Int) - 1) = (t : Int) := by rw [w_id (by omega) (by omega)]; omega
    obtain ⟨r, hr, hev⟩ := ih (xs ++ [v]) a1 s1 (by simp; omega) (fun x hx => by
        rcases List.mem_append.1 hx with hx | hx
        · exact h2 x hx
        · rw [List.mem_singleton.1 hx]; exact p) (by rw [hs2, List.length_append, List.length_singleton]; omega) (by rw [hs2, List.length_append, List.length_singleton]; omega) q0 (by rw [List.length_append, List.length_singleton]; omega)
    refine ⟨r, hr, Ev.step (fun k => ?_) hev⟩
    simp only [spec_A2Nets.l0]
    rw [if_pos (by omega), e1, Option.bind_some, if_pos (by omega)]
    simp only
    rw [hs, ht]
theorem nets_t {l : List Int} (hc : CodeOk l) : ∃ r : List Int, NetOk r ∧ Ev (fun k => spec_A2Nets.f k l) r := by
  unfold spec_A2Nets.f spec_l00From.f
  simp only [Option.bind_some]
  obtain ⟨u, a2, s2, e2, p2, p3, q2, q3⟩ := pick_t hc 0 0 6 0 (by omega) (by omega) (by omega)
  rw [e2]
  simp only [Option.bind_some]
  obtain ⟨r, hr, hev⟩ := netsLoop_t hc u.toNat [] a2 s2 (by simp; omega) (by simp) (by simp) (by simp) q2 (by simp; omega)
  rw [Int.toNat_of_nonneg p2] at hev
  exact ⟨r, hr, hev⟩
end Led
end Go.Proofs.Ytljkamjdpjaooaa.G
