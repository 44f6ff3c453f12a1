/- FnExactFewestPayments: the program's FewestPayments answers as the reference's does, for all nets that the law lets in. No condition. -/
import Derived.Test.YtljkamjdpjaooaaSayFnExactFewestPayments
import Derived.Test.YtljkamjdpjaooaaFHpPay
import Derived.Test.YtljkamjdpjaooaaFHpI64
import Derived.Test.YtljkamjdpjaooaaFLibPay
import Derived.Test.YtljkamjdpjaooaaFLibFew
namespace Go.Proofs.Ytljkamjdpjaooaa.PureFnExactFewestPayments
open Go.RowKit Go.Proofs.YtljkamjdpjaooaaW.PrintWords Go.Proofs.Ytljkamjdpjaooaa.G Go.Proofs.Ytljkamjdpjaooaa.SayFnExactFewestPayments Go.Proofs.Ytljkamjdpjaooaa.Wk Go.Proofs.Ytljkamjdpjaooaa.Pl Pay FewL Few
set_option linter.unusedSimpArgs false
set_option linter.unusedVariables false
theorem both (l0 : List Int) : ∃ r : List Few.P × Int, r.1.length ≤ 1000 ∧ Ev (fun k => spec_FewestPayments.f k l0) r ∧ Ev (fun k => impl_FewestPayments.f k l0) r := by
  unfold spec_FewestPayments.f impl_FewestPayments.f
  by_cases hz : netsC l0 = 0
  · obtain ⟨a, c, left', new, h1, h2, h3, h4, h5, h6, h7, h8⟩ := few_runs (netsC_zero hz)
    have hn := netsC_zero hz
    have h16 := hn.n1
    have h66 := hn.n6
    refine ⟨(new, 0), ?_, ?_, ?_⟩
    · have ht : ∀ (e j : Nat), tot l0 (parts l0 l0.length) a j e ≤ 6 * e := by
        intro e
        induction e with
        | zero => intro j; exact Nat.le_refl _
        | succ e ih =>
          intro j
          have := ih (j + 1)
          have h9 := Nat.le_trans (nzf_le (rd l0) (memb (parts l0 l0.length) a j)) memb_len
          have := Few.parts_len l0 l0.length
          rw [tot]
          omega
      have := ht c 0
      rcases Nat.eq_zero_or_pos (tot l0 (parts l0 l0.length) a 0 c) with h0 | h0
      · rw [h8.n0 h0]; simp
      · have := h8.n1 h0
        simp only
        omega
    · refine Ev.bind (l06Nets_tells l0) ?_
      simp only [hz, if_true]
      exact h4
    · refine Ev.bind (netsCode_tells l0) ?_
      simp only [hz, if_true, if_pos (show 1 ≤ l0.length ∧ l0.length ≤ 1000 by omega)]
      exact h5
  · refine ⟨([], netsC l0), by simp, ?_, ?_⟩
    · refine Ev.bind (l06Nets_tells l0) ?_
      simp only [if_neg hz]
      exact Ev.now _
    · refine Ev.bind (netsCode_tells l0) ?_
      simp only [if_neg hz]
      exact Ev.now _
theorem FnExactFewestPayments : SayFnExactFewestPayments.Pure := by
  intro l hl _
  refine Ev.rounds (?_ : Ev (fun k => laws_FnExactFewestPayments.f k l) true)
  unfold laws_FnExactFewestPayments.f
  by_cases hbig : (l.length : Int) > 1048576
  · simp only [if_pos hbig]
    exact Ev.now _
  · simp only [if_neg hbig]
    obtain ⟨⟨r1, r2⟩, hr, hs, hi⟩ := both l
    simp only at hr
    repeat (first
      | exact Ev.now _
      | refine Ev.bind (by first | exact ev_of (toInt64S_tells l hl) | exact hs | exact hi | exact ev_of (eqInt64S_tells _ (by omega)) | exact ev_of (eqPaymentS_tells _ (by omega)) | exact ev_of (markPaymentS_tells _ (by omega) 1 (by omega) (by omega)) | exact ev_of (markInt64S_tells _ (by omega) 1 (by omega) (by omega)) | exact ev_of (heldInt64S_tells _ (by omega) 1 (by omega) (by omega)) | exact ev_of (heldPaymentS_tells _ (by omega) 1 (by omega) (by omega))) ?_
      | simp only [if_true, bne_self, if_neg Bool.false_ne_true, if_neg (cnt_ok (show (0 : Int) ≤ 1 by omega))]
      | refine Ev.step (fun k => laws_FnExactFewestPayments.j0.eq_2 ..) ?_
      | refine Ev.step (fun k => laws_FnExactFewestPayments.j1.eq_2 ..) ?_
      | refine Ev.step (fun k => laws_FnExactFewestPayments.j2.eq_2 ..) ?_)
end Go.Proofs.Ytljkamjdpjaooaa.PureFnExactFewestPayments
