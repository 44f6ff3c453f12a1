/- Plain laws on ledgers that are applied: what the printed functions tell. -/
import Derived.Test.YtncbgnlojabpfaaPl
import Derived.Test.YtncbgnlojabpfaaFApply
import Derived.Test.YtncbgnlojabpfaaFSApply
import Derived.Test.YtncbgnlojabpfaaFLibHold
import Derived.Test.YtncbgnlojabpfaaFLibEntry
import Derived.Test.YtncbgnlojabpfaaFHpEntry
import Derived.Test.YtncbgnlojabpfaaFHpHold
import Derived.Test.YtncbgnlojabpfaaG3
import Derived.Test.YtncbgnlojabpfaaG2
import Derived.Test.YtncbgnlojabpfaaG5
import Derived.Test.YtncbgnlojabpfaaG6
namespace Go.Proofs.Ytncbgnlojabpfaa.G
open Go.RowKit Go.Proofs.YtncbgnlojabpfaaW.PrintWords Go.Proofs.YtncbgnlojabpfaaW.PrintLast Go.Proofs.YtncbgnlojabpfaaW.PrintMore
attribute [local go_sem] max2_int min2_int max_two min_two max_three min_three max_four min_four   -- for this text's walks alone
set_option linter.unusedVariables false
set_option linter.unusedSimpArgs false

open Go.Proofs.Ytncbgnlojabpfaa.Wk Go.Proofs.Ytncbgnlojabpfaa.Pl
namespace Ap

/-- The code of prices, holdings and entries. -/
def asked (b c : Int) (l : List H) (es : List En) : Int := if (pricesB b c && ledgerB l.length es) = true then holdsCode l else 1
theorem l00In_is (x lo hi : Int) : spec_l00In.f x lo hi = some (inB x lo hi) := by
  unfold spec_l00In.f inB
  by_cases h : lo ≤ x <;> simp [h]
theorem specPrices_is (b c : Int) : spec_l06Prices.f b c = some (pricesB b c) := by
  unfold spec_l06Prices.f pricesB
  simp only [l00In_is, Option.bind_some]
  cases inB (wrap64 b) 0 1000 <;> rfl
theorem implPrices_is (b c : Int) : impl_ValidPrices.f b c = some (pricesB b c) := by
  unfold impl_ValidPrices.f pricesB
  simp only [pw_within_tells, Option.bind_some]
  cases inB (wrap64 b) 0 1000 <;> rfl
theorem asked_is (b c : Int) (l : List H) (es : List En) : spec_l06Asked.f b c l es = some (asked b c l es) := by
  unfold spec_l06Asked.f spec_l06Holdings.f spec_l06Ledger.f asked
  simp only [specPrices_is, Option.bind_some]
  cases pricesB b c <;> cases ledgerB l.length es <;> rfl
theorem ledgerB_in {p : Int} {es : List En} (h : ledgerB p es = true) : inB p 1 6 = true := by
  unfold ledgerB at h
  simp only [Bool.and_eq_true] at h
  exact h.2.2
theorem codes_agree (b c : Int) (l : List H) (v : Bool) (hv : v = true → inB (l.length : Int) 1 6 = true) : impl_codeOf.f v (l.all hB) = some (if v = true then holdsCode l else 1) := by
  unfold impl_codeOf.f holdsCode
  cases v
  · rfl
  · rw [hv rfl]
    cases l.all hB <;> rfl
theorem ledgerCode_is (b c : Int) (l : List H) (es : List En) (hl : es.length ≤ 1099511627776) : Ev (fun k => impl_ledgerCode.f k b c l es) (asked b c l es) := by
  unfold impl_ledgerCode.f impl_areHeld.f asked
  simp only [implPrices_is, Option.bind_some]
  cases hp : pricesB b c
  · simp only [if_neg Bool.false_ne_true, Bool.false_and]
    exact Ev.now _
  · simp only [if_true, Bool.true_and]
    refine Ev.bind (ev_of (validLedger_tells (l.length : Int) es hl)) ?_
    simp only [codes_agree b c l (ledgerB l.length es) (fun h => ledgerB_in h), Option.bind_some]
    exact Ev.now _
/-- An entry's numbers are of their kinds. -/
def En1 (e : En) : Prop := (-32768 ≤ e.f0 ∧ e.f0 ≤ 32767) ∧ (-128 ≤ e.f1 ∧ e.f1 ≤ 127) ∧ (-128 ≤ e.f2 ∧ e.f2 ≤ 127) ∧ (0 ≤ e.f3 ∧ e.f3 ≤ 255) ∧ (-32768 ≤ e.f4 ∧ e.f4 ≤ 32767)
theorem asked_says {b c : Int} {l : List H} {es : List En} (h : asked b c l es = 0) : pricesB b c = true ∧ ledgerB l.length es = true ∧ 1 ≤ l.length ∧ l.length ≤ 6 ∧ l.all hB = true := by
  unfold asked at h
  cases hp : pricesB b c <;> cases hq : ledgerB l.length es <;> rw [hp, hq] at h <;> try (simp at h; done)
  simp only [Bool.and_self, if_true] at h
  rcases holdsCode_cases l with ⟨_, h1, h2, h3⟩ | h1 | h1
  · exact ⟨rfl, rfl, h1, h2, h3⟩
  · rw [h1] at h; cases h
  · rw [h1] at h; cases h
theorem entry_ok {l : List H} {e : En} (h1 : l.length ≤ 6) (h2 : l.all hB = true) (he : En1 e) (hb : entryB l.length e.f0 e.f1 e.f2 e.f3 e.f4 = true) : ok l e.f1 e.f2 e.f3 e.f4 = true := by
  obtain ⟨a0, a1, a2, a3, a4⟩ := he
  unfold entryB at hb
  rw [w_id (x := e.f1) (by omega) (by omega), w_id (x := e.f2) (by omega) (by omega), w_id (x := e.f4) (by omega) (by omega), w_id (x := (l.length : Int) - 1) (by omega) (by omega)] at hb
  simp only [Bool.and_eq_true, decide_eq_true_eq, beq_iff_eq] at hb
  obtain ⟨_, b1, b2, _, b4, b5, b6⟩ := hb
  unfold ok
  simp only [Bool.and_eq_true, decide_eq_true_eq, beq_iff_eq]
  refine ⟨h1, h2, b1, b2, inB_yes a3.1 b5, b4, ?_⟩
  rw [b6]
  by_cases e1 : e.f1 = e.f2 <;> simp [e1]
theorem ledger_at {p : Int} {es : List En} (h : ledgerB p es = true) {i : Nat} (hi : i < es.length) : entryB p (es.getD i z36).f0 (es.getD i z36).f1 (es.getD i z36).f2 (es.getD i z36).f3 (es.getD i z36).f4 = true := by
  unfold ledgerB at h
  simp only [Bool.and_eq_true] at h
  have := List.all_eq_true.1 h.1 i (List.mem_range.2 hi)
  unfold okAt at this
  simp only [Bool.and_eq_true] at this
  exact this.1
theorem all_set {l : List H} {i : Nat} {y : H} (h : l.all hB = true) (hy : hB y = true) : (l.set i y).all hB = true := by
  rw [List.all_eq_true] at h ⊢
  intro x hx
  rcases List.mem_or_eq_of_mem_set hx with h1 | h1
  · exact h x h1
  · rw [h1]; exact hy
theorem moveA_keeps (k : Nat) (l : List H) (f t : Nat) (n pr : Int) (h2 : l.all hB = true) : ((moveA k l f t n pr).2 = 0 ∧ (moveA k l f t n pr).1.length = l.length ∧ (moveA k l f t n pr).1.all hB = true) ∨ ((moveA k l f t n pr).2 = 3 ∧ (moveA k l f t n pr).1 = []) := by
  unfold moveA
  by_cases h : (hB (fromA k l f n pr) && hB (toA k l t n pr)) = true
  · rw [if_pos h]
    rw [Bool.and_eq_true] at h
    exact .inl ⟨rfl, by simp, all_set (all_set h2 h.1) h.2⟩
  · rw [if_neg h]
    exact .inr ⟨rfl, rfl⟩
theorem moveB_keeps (j : Nat) (l : List H) (f : Nat) (n : Int) (h2 : l.all hB = true) : ((moveB j l f n).2 = 0 ∧ (moveB j l f n).1.length = l.length ∧ (moveB j l f n).1.all hB = true) ∨ ((moveB j l f n).2 = 3 ∧ (moveB j l f n).1 = []) := by
  unfold moveB
  by_cases h : hB (fromB j l f n) = true
  · rw [if_pos h]
    exact .inl ⟨rfl, by simp, all_set h2 h⟩
  · rw [if_neg h]
    exact .inr ⟨rfl, rfl⟩
/-- The holdings behind an entry are as many, and held. -/
theorem res_keeps (b c : Int) (l : List H) (e1 e2 e3 e4 : Int) (h2 : l.all hB = true) :
    ((res b c l e1 e2 e3 e4).2 = 0 ∧ (res b c l e1 e2 e3 e4).1.length = l.length ∧ (res b c l e1 e2 e3 e4).1.all hB = true) ∨ (((res b c l e1 e2 e3 e4).2 = 3 ∨ (res b c l e1 e2 e3 e4).2 = 4) ∧ (res b c l e1 e2 e3 e4).1 = []) := by
  have key : ∀ q : List H × Int, ((q.2 = 0 ∧ q.1.length = l.length ∧ q.1.all hB = true) ∨ (q.2 = 3 ∧ q.1 = [])) → ((q.2 = 0 ∧ q.1.length = l.length ∧ q.1.all hB = true) ∨ ((q.2 = 3 ∨ q.2 = 4) ∧ q.1 = [])) := fun q h => h.imp id (fun h => ⟨.inl h.1, h.2⟩)
  unfold res
  split
  · exact .inr ⟨.inr rfl, rfl⟩
  · split
    · exact key _ (moveA_keeps _ _ _ _ _ _ h2)
    · split
      · exact key _ (moveA_keeps _ _ _ _ _ _ h2)
      · split
        · exact key _ (moveA_keeps _ _ _ _ _ _ h2)
        · split
          · exact key _ (moveB_keeps _ _ _ _ h2)
          · exact key _ (moveB_keeps _ _ _ _ h2)
/-- What both replays come to. -/
theorem replay_both (b c : Int) (es : List En) (but : Int) (n : Nat) (hn : n ≤ 6) (hes : es.length ≤ 1048576) (hE : ∀ e ∈ es, En1 e) (hL : ledgerB n es = true) :
    ∀ d (i : Nat) (now : List H), i + d = es.length → now.length = n → now.all hB = true →
      ∃ r : List H × Int × Int, rp b c es but d i now = some r ∧ (r.2.2 = 0 → r.2.1 = -1 ∧ r.1.length ≤ 6) ∧ (r.2.2 ≠ 0 → 0 ≤ r.2.1 ∧ r.1 = []) ∧ Ev (fun k => impl_replay.l0 k but now es es.length i b c) (r.1, if r.2.2 = 0 then 0 else r.2.1, r.2.2) := by
  intro d
  induction d with
  | zero =>
    intro i now hi h1 h2
    obtain rfl : i = es.length := by omega
    refine ⟨(now, -1, 0), rfl, fun _ => ⟨rfl, by simp only; omega⟩, fun h => absurd rfl h, Ev.step (fun k => impl_replay.l0.eq_2 ..) ?_⟩
    simp only [if_neg (show ¬ ((es.length : Int) < (es.length : Int)) by omega), if_true]
    exact Ev.now _
  | succ d ih =>
    intro i now hi h1 h2
    have hi1 : i < es.length := by omega
    have hok : ok now (es.getD i z36).f1 (es.getD i z36).f2 (es.getD i z36).f3 (es.getD i z36).f4 = true := entry_ok (by omega) h2 (hE _ (by rw [getD_lt hi1]; exact List.getElem_mem hi1)) (by rw [h1]; exact ledger_at hL hi1)
    have hw := w_i hi1 (show es.length ≤ 4611686018427387904 by omega)
    unfold rp
    by_cases hb : (i : Int) = but
    · obtain ⟨r, r1, r2, r3, r4⟩ := ih (i + 1) now (by omega) h1 h2
      refine ⟨r, by rw [if_pos hb]; exact r1, r2, r3, Ev.step (fun k => impl_replay.l0.eq_2 ..) ?_⟩
      simp only [if_pos (show (i : Int) < (es.length : Int) by omega), if_pos (show (0 : Int) ≤ (i : Int) by omega), if_pos hb, hw]
      exact r4
    · rw [if_neg hb, if_pos hok]
      have hI : ∀ k, impl_replay.l0 (k + 1) but now es es.length i b c = (if (res b c now (es.getD i z36).f1 (es.getD i z36).f2 (es.getD i z36).f3 (es.getD i z36).f4).2 = 0 then impl_replay.l0 k but (res b c now (es.getD i z36).f1 (es.getD i z36).f2 (es.getD i z36).f3 (es.getD i z36).f4).1 es es.length ((i + 1 : Nat) : Int) b c
          else some ([], (i : Int), (res b c now (es.getD i z36).f1 (es.getD i z36).f2 (es.getD i z36).f3 (es.getD i z36).f4).2)) := by
        intro k
        rw [impl_replay.l0.eq_2]
        unfold impl_apply.f
        simp only [show rd_T36 es (i : Int) = es.getD i z36 from rfl, if_pos (show (i : Int) < (es.length : Int) by omega), if_pos (show (0 : Int) ≤ (i : Int) by omega), if_neg hb, hok, if_true, Option.bind_some, hw]
      rcases res_keeps b c now (es.getD i z36).f1 (es.getD i z36).f2 (es.getD i z36).f3 (es.getD i z36).f4 h2 with ⟨q1, q2, q3⟩ | ⟨q1, q2⟩
      · obtain ⟨r, r1, r2, r3, r4⟩ := ih (i + 1) _ (by omega) (q2.trans h1) q3
        refine ⟨r, by rw [if_pos q1]; exact r1, r2, r3, Ev.step hI ?_⟩
        simp only [if_pos q1]
        exact r4
      · have q0 : ¬ (res b c now (es.getD i z36).f1 (es.getD i z36).f2 (es.getD i z36).f3 (es.getD i z36).f4).2 = 0 := by rcases q1 with q1 | q1 <;> rw [q1] <;> decide
        refine ⟨([], (i : Int), _), by rw [if_neg q0], fun h => absurd h q0, fun _ => ⟨by simp only; omega, rfl⟩, Ev.step hI ?_⟩
        simp only [if_neg q0]
        exact Ev.now _
theorem replay_tells (b c : Int) (l : List H) (es : List En) (but : Int) (hes : es.length ≤ 1048576) (hE : ∀ e ∈ es, En1 e) (h : asked b c l es = 0) :
    ∃ r : List H × Int × Int, spec_l06Replay.f b c l es but = some r ∧ (r.2.2 = 0 → r.2.1 = -1 ∧ r.1.length ≤ 6) ∧ (r.2.2 ≠ 0 → 0 ≤ r.2.1 ∧ r.1 = []) ∧ Ev (fun k => impl_replay.f k b c l es but) (r.1, if r.2.2 = 0 then 0 else r.2.1, r.2.2) := by
  obtain ⟨_, h2, h3, h4, h5⟩ := asked_says h
  obtain ⟨r, r1, r2, r3, r4⟩ := replay_both b c es but l.length h4 hes hE h2 es.length 0 l (by omega) rfl h5
  refine ⟨r, ?_, r2, r3, ?_⟩
  · unfold spec_l06Replay.f
    rw [if_pos h4]
    exact r1
  · unfold impl_replay.f cloneHold.f
    simp only [if_pos (show l.length ≤ 3518437208883 by omega), Option.bind_some]
    exact r4
end Ap
end Go.Proofs.Ytncbgnlojabpfaa.G
