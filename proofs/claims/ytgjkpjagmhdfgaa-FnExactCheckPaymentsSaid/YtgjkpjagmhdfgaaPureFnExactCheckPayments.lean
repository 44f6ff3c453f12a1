/- FnExactCheckPayments: the program's CheckPayments answers as the reference's does, for all nets and lists of payments that the law lets in. No condition. -/
import Derived.Test.YtgjkpjagmhdfgaaSayFnExactCheckPayments
import Derived.Test.YtgjkpjagmhdfgaaFHpPay
import Derived.Test.YtgjkpjagmhdfgaaFHpI64
import Derived.Test.YtgjkpjagmhdfgaaFLibPay
import Derived.Test.YtgjkpjagmhdfgaaFChkPay
namespace Go.Proofs.Ytgjkpjagmhdfgaa.PureFnExactCheckPayments
open Go.RowKit Go.Proofs.YtgjkpjagmhdfgaaW.PrintWords Go.Proofs.Ytgjkpjagmhdfgaa.G Go.Proofs.Ytgjkpjagmhdfgaa.SayFnExactCheckPayments Go.Proofs.Ytgjkpjagmhdfgaa.Wk Go.Proofs.Ytgjkpjagmhdfgaa.Pl Pay ChkPay
set_option linter.unusedSimpArgs false
set_option linter.unusedVariables false
def out (l0 : List Int) (l1 : List P) : Bool × Int := if netsC l0 = 0 then (if l1.length > 80 then (false, 3) else fin (go (l0.length : Int) l1 l1.length 0 l0)) else (false, netsC l0)
theorem in00 (x : Int) : inB x 0 0 = decide (x = 0) := by
  unfold inB
  by_cases h : x = 0
  · subst h; rfl
  · have : ¬ (0 ≤ x ∧ x ≤ 0) := by omega
    simp only [h, decide_false]
    rw [← Bool.decide_and, decide_eq_false this]
theorem zeros (l : List Int) (hl : l.length ≤ 1048576) : Ev (fun k => spec_CheckPayments.l1 k l 0) (allB l 0 0, (0 : Int)) := by
  have h := ev_all (F := fun k i => spec_CheckPayments.l1 k l i) l.length (fun i => inB (l.getD i 0) 0 0) ((true, 0) : Bool × Int) (false, 0) (fun i hi hp r h => by
    refine Ev.step (fun k => ?_) h
    have h3 : (i : Int) < (l.length : Int) := by omega
    have h4 : rd l (i : Int) = 0 := by rw [in00] at hp; exact of_decide_eq_true hp
    simp only [spec_CheckPayments.l1]
    rw [if_pos h3, if_pos (by omega), if_pos h4, w_i hi (by omega)]) (fun i hi hp => by
    refine Ev.step (f := fun _ => some (false, 0)) (fun k => ?_) (Ev.now _)
    have h3 : (i : Int) < (l.length : Int) := by omega
    have h4 : ¬ rd l (i : Int) = 0 := by rw [in00] at hp; exact of_decide_eq_false hp
    simp only [spec_CheckPayments.l1]
    rw [if_pos h3, if_pos (by omega), if_neg h4]) (Ev.step (fun k => by simp only [spec_CheckPayments.l1]; rw [if_neg (by omega)]) (Ev.now _))
  have e : allB l 0 0 = (List.range l.length).all fun i => inB (l.getD i 0) 0 0 := all_range l 0 (fun x => inB x 0 0)
  rw [e]
  cases hq : (List.range l.length).all fun i => inB (l.getD i 0) 0 0
  · rw [hq] at h; exact h
  · rw [hq] at h; exact h
theorem spec_loop (l0 : List Int) (l1 : List P) (h0 : l0.length ≤ 1048576) (h1 : l1.length ≤ 1048576) (hx : ∀ x ∈ l1, (-128 ≤ x.f0 ∧ x.f0 ≤ 127) ∧ (-128 ≤ x.f1 ∧ x.f1 ≤ 127)) :
    ∀ d (i : Nat) (l : List Int), i + d = l1.length → l.length = l0.length → Ev (fun k => spec_CheckPayments.l0 k l0 l1 l i) (fin (go (l0.length : Int) l1 d i l)) := by
  intro d
  induction d with
  | zero =>
    intro i l hi hl
    obtain rfl : i = l1.length := by omega
    refine Ev.step (fun k => by simp only [spec_CheckPayments.l0]; rw [if_neg (by omega)]) ?_
    exact zeros l (by omega)
  | succ d ih =>
    intro i l hi hl
    have hlt : i < l1.length := by omega
    have h3 : (i : Int) < (l1.length : Int) := by omega
    have hb := hx (l1.getD i z53) (by rw [getD_lt hlt]; exact List.getElem_mem hlt)
    have hr : rd_T53 l1 (i : Int) = l1.getD i z53 := rfl
    rw [go]
    unfold bad
    generalize l1.getD i z53 = y at hb hr
    obtain ⟨F, T, M⟩ := y
    simp only at hb hr ⊢
    obtain ⟨⟨hf1, hf2⟩, ht1, ht2⟩ := hb
    have hwf : wrap64 F = F := w_id (by omega) (by omega)
    have hwt : wrap64 T = T := w_id (by omega) (by omega)
    have hwn : wrap64 ((l0.length : Int) - 1) = (l0.length : Int) - 1 := w_id (by omega) (by omega)
    rw [hwf, hwt, hwn]
    have stop : ∀ (k : Nat), ((!(inB F 0 ((l0.length : Int) - 1)) || !(inB T 0 ((l0.length : Int) - 1)) || F == T || !(inB M 1 1000000000)) = true) → spec_CheckPayments.l0 (k + 1) l0 l1 l i = some (false, 0) := by
      intro k hb
      simp only [spec_CheckPayments.l0]
      rw [if_pos h3, if_pos (by omega), hr]
      simp only [hwf, hwt, hwn, l00In_t, Option.bind_some]
      revert hb
      cases inB F 0 ((l0.length : Int) - 1) <;> cases inB T 0 ((l0.length : Int) - 1) <;> cases inB M 1 1000000000 <;> simp <;> (intro e1 e2; exact absurd e1 e2)
    have on : ∀ (k : Nat), ¬ ((!(inB F 0 ((l0.length : Int) - 1)) || !(inB T 0 ((l0.length : Int) - 1)) || F == T || !(inB M 1 1000000000)) = true) → spec_CheckPayments.l0 (k + 1) l0 l1 l i = spec_CheckPayments.l0 k l0 l1 (put l ⟨F, T, M⟩) ((i + 1 : Nat) : Int) := by
      intro k hb
      have hb1 : inB F 0 ((l0.length : Int) - 1) = true := by revert hb; cases inB F 0 ((l0.length : Int) - 1) <;> simp
      have hb2 : inB T 0 ((l0.length : Int) - 1) = true := by revert hb; cases inB T 0 ((l0.length : Int) - 1) <;> simp
      have hb3 : inB M 1 1000000000 = true := by revert hb; cases inB M 1 1000000000 <;> simp
      have hb4 : F ≠ T := by intro e; apply hb; simp [e]
      obtain ⟨hF0, hFq⟩ := inB_iff.1 hb1
      obtain ⟨hT0, hTq⟩ := inB_iff.1 hb2
      simp only [spec_CheckPayments.l0]
      rw [if_pos h3, if_pos (by omega), hr]
      simp only [hwf, hwt, hwn, l00In_t, Option.bind_some, hb1, hb2, hb3, if_true, if_neg hb4, if_pos hF0, if_pos hT0, if_pos (show F < (l.length : Int) by omega), if_pos (show T < (l.length : Int) by omega), w_i hlt (show l1.length ≤ 4611686018427387904 by omega)]
      have e : rd (l.set F.toNat (wrap64 (rd l F + M))) T = rd l T := by
        simp only [rd, List.getD]
        rw [List.getElem?_set_ne (by omega)]
      rw [e]
      rfl
    by_cases hbad : (!(inB F 0 ((l0.length : Int) - 1)) || !(inB T 0 ((l0.length : Int) - 1)) || F == T || !(inB M 1 1000000000)) = true
    · rw [if_pos hbad]
      exact Ev.step (f := fun _ => some (false, 0)) (fun k => stop k hbad) (Ev.now _)
    · rw [if_neg hbad]
      exact Ev.step (fun k => on k hbad) (ih (i + 1) _ (by omega) (by rw [put_length, hl]))
theorem own_tells (l : List Int) (hl : l.length ≤ 1048576) : spec_l00Own.f l = some l := by
  unfold spec_l00Own.f
  simp only [Option.bind_some, List.length_nil, List.nil_append]
  rw [if_pos (by omega)]
theorem spec_tells (l0 : List Int) (l1 : List P) (h0 : l0.length ≤ 1048576) (h1 : l1.length ≤ 1048576) (hx : ∀ x ∈ l1, (-128 ≤ x.f0 ∧ x.f0 ≤ 127) ∧ (-128 ≤ x.f1 ∧ x.f1 ≤ 127)) : Ev (fun k => spec_CheckPayments.f k l0 l1) (out l0 l1) := by
  unfold spec_CheckPayments.f out
  refine Ev.bind (l06Nets_tells l0) ?_
  by_cases hz : netsC l0 = 0
  · simp only [if_pos hz, hz, if_true]
    by_cases hl : l1.length > 80
    · simp only [if_pos hl, decide_eq_true (show (l1.length : Int) > 80 by omega)]
      refine Ev.step (fun k => by simp only [spec_CheckPayments.j0, if_true]; rfl) ?_
      refine Ev.step (fun k => by simp only [spec_CheckPayments.j1]; rw [if_neg (by omega)]) (Ev.now _)
    · simp only [if_neg hl, decide_eq_false (show ¬ (l1.length : Int) > 80 by omega)]
      refine Ev.step (fun k => by simp only [spec_CheckPayments.j0, Bool.false_eq_true, if_false]; rfl) ?_
      refine Ev.step (fun k => by simp only [spec_CheckPayments.j1, if_true, own_tells l0 h0, Option.bind_some]; rfl) ?_
      exact spec_loop l0 l1 h0 h1 hx l1.length 0 l0 (by omega) rfl
  · simp only [if_neg hz]
    refine Ev.step (fun k => by simp only [spec_CheckPayments.j0, Bool.false_eq_true, if_false]; rfl) ?_
    refine Ev.step (fun k => by simp only [spec_CheckPayments.j1]; rw [if_neg hz]) (Ev.now _)
theorem impl_tells (l0 : List Int) (l1 : List P) (h0 : l0.length ≤ 1048576) (hx : ∀ x ∈ l1, (-128 ≤ x.f0 ∧ x.f0 ≤ 127) ∧ (-128 ≤ x.f1 ∧ x.f1 ≤ 127)) : impl_CheckPayments.f l0 l1 = some (out l0 l1) := by
  unfold impl_CheckPayments.f out
  rw [if_pos ⟨List.all_eq_true.2 fun x h => by have := hx x h; simp only [Bool.and_eq_true, inB_iff]; exact this, by omega⟩]
theorem sz_tells (l : List S56) (hl : l.length * 16 ≤ 140737488351232) : laws_szPaymentS.f l 1048576 = some (if (1048576 - (l.length : Int)) < 0 then -1 else 1048576 - (l.length : Int)) := by
  unfold laws_szPaymentS.f
  rw [w_id (x := 1048576 - (l.length : Int)) (by omega) (by omega)]
  split <;> rfl
theorem FnExactCheckPayments : SayFnExactCheckPayments.Pure := by
  intro l0 l1 hl0 _ hl1 hx
  refine Ev.rounds (?_ : Ev (fun k => laws_FnExactCheckPayments.f k l0 l1) true)
  unfold laws_FnExactCheckPayments.f
  by_cases hbig : (l0.length : Int) > 1048576
  · simp only [if_pos hbig]
    exact Ev.now _
  simp only [if_neg hbig, sz_tells l1 hl1, Option.bind_some]
  by_cases hbig1 : (1048576 - (l1.length : Int)) < 0
  · simp only [if_pos hbig1, if_pos (show (-1 : Int) < 0 by omega)]
    exact Ev.now _
  simp only [if_neg hbig1]
  have hx2 : ∀ x ∈ l1.map cPayment, (-128 ≤ x.f0 ∧ x.f0 ≤ 127) ∧ (-128 ≤ x.f1 ∧ x.f1 ≤ 127) := by
    intro x hm
    obtain ⟨y, hy, rfl⟩ := List.mem_map.1 hm
    have := hx y hy
    exact ⟨this.1, this.2.1⟩
  have hlm : (l1.map cPayment).length ≤ 1048576 := by rw [List.length_map]; omega
  have A1 := spec_tells l0 (l1.map cPayment) (by omega) hlm hx2
  have A2 := impl_tells l0 (l1.map cPayment) (by omega) hx2
  generalize out l0 (l1.map cPayment) = r at A1 A2
  obtain ⟨r1, r2⟩ := r
  refine Ev.bind (ev_of (toInt64S_tells l0 hl0)) ?_
  refine Ev.bind (ev_of (toPaymentS_tells l1 hl1)) ?_
  refine Ev.bind A1 ?_
  refine Ev.bind (ev_of (toInt64S_tells l0 hl0)) ?_
  refine Ev.bind (ev_of (toPaymentS_tells l1 hl1)) ?_
  simp only [A2, Option.bind_some, bne_self, if_neg Bool.false_ne_true]
  refine Ev.step (fun k => by simp only [laws_FnExactCheckPayments.j0, if_neg Bool.false_ne_true]; rfl) ?_
  refine Ev.bind (ev_of (toInt64S_tells l0 hl0)) ?_
  refine Ev.bind (ev_of (eqInt64S_tells l0 (by omega))) ?_
  simp only [if_true]
  refine Ev.bind (ev_of (toPaymentS_tells l1 hl1)) ?_
  refine Ev.bind (ev_of (eqPaymentS_tells (l1.map cPayment) (by rw [List.length_map]; omega))) ?_
  simp only [if_true]
  exact Ev.now _
end Go.Proofs.Ytgjkpjagmhdfgaa.PureFnExactCheckPayments
