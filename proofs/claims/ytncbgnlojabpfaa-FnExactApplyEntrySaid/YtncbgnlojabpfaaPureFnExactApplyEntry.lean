/- FnExactApplyEntry: the program's ApplyEntry answers as the reference's does, for all prices, holdings and entries that the law lets in. No condition. -/
import Derived.Test.YtncbgnlojabpfaaSayFnExactApplyEntry
import Derived.Test.YtncbgnlojabpfaaFLibApply
namespace Go.Proofs.Ytncbgnlojabpfaa.PureFnExactApplyEntry
open Go.RowKit Go.Proofs.YtncbgnlojabpfaaW.PrintWords Go.Proofs.Ytncbgnlojabpfaa.G Go.Proofs.Ytncbgnlojabpfaa.SayFnExactApplyEntry Go.Proofs.Ytncbgnlojabpfaa.Wk Go.Proofs.Ytncbgnlojabpfaa.Pl
set_option linter.unusedSimpArgs false
set_option linter.unusedVariables false
theorem ledger_one (p : Int) (e : Ap.En) : ledgerB p [e] = entryB p e.f0 e.f1 e.f2 e.f3 e.f4 := by
  cases h : entryB p e.f0 e.f1 e.f2 e.f3 e.f4
  · simp [ledgerB, okAt, List.range_succ, h]
  · have hi : inB p 1 6 = true := by
      unfold entryB at h
      simp only [Bool.and_eq_true] at h
      exact h.1
    simp [ledgerB, okAt, List.range_succ, h, hi]
def out (b c : Int) (l : List Ap.H) (e : Ap.En) : List Ap.H × Int := if Ap.asked b c l [e] = 0 then Ap.res b c l e.f1 e.f2 e.f3 e.f4 else ([], Ap.asked b c l [e])
theorem tells (b c : Int) (l : List Ap.H) (e : Ap.En) (hE : Ap.En1 e) : spec_ApplyEntry.f b c l e.f0 e.f1 e.f2 e.f3 e.f4 = some (out b c l e) ∧ impl_ApplyEntry.f b c l e.f0 e.f1 e.f2 e.f3 e.f4 = some (out b c l e) ∧ (out b c l e).1.length ≤ 6 := by
  have hcode : ∀ v : Bool, (v = (pricesB b c && entryB l.length e.f0 e.f1 e.f2 e.f3 e.f4)) → impl_codeOf.f v (l.all hB) = some (Ap.asked b c l [e]) := by
    intro v hv
    rw [Ap.codes_agree b c l v (fun h => by
      rw [h] at hv
      have := hv.symm
      rw [Bool.and_eq_true] at this
      have h2 := this.2
      unfold entryB at h2
      simp only [Bool.and_eq_true] at h2
      exact h2.1), hv]
    unfold Ap.asked
    rw [ledger_one]
  have hI : impl_ApplyEntry.f b c l e.f0 e.f1 e.f2 e.f3 e.f4 = if Ap.asked b c l [e] = 0 then ((impl_apply.f b c l e.f0 e.f1 e.f2 e.f3 e.f4).bind fun x => some (x.1, x.2)) else some ([], Ap.asked b c l [e]) := by
    unfold impl_ApplyEntry.f impl_areHeld.f
    simp only [Ap.implPrices_is, Option.bind_some, validEntry_tells]
    cases hp : pricesB b c
    · simp only [if_neg Bool.false_ne_true]
      rw [hcode false (by rw [hp]; rfl)]
      rfl
    · simp only [if_true]
      rw [hcode _ (by rw [hp]; rfl)]
      rfl
  rw [hI]
  unfold spec_ApplyEntry.f out impl_apply.f
  rw [show ([⟨e.f0, e.f1, e.f2, e.f3, e.f4⟩] : List Ap.En) = [e] from rfl]
  simp only [Ap.asked_is, Option.bind_some]
  by_cases h : Ap.asked b c l [e] = 0
  · obtain ⟨_, h2, h3, h4, h5⟩ := Ap.asked_says h
    have hok := Ap.entry_ok h4 h5 hE (by rw [← ledger_one]; exact h2)
    simp only [if_pos h, hok, if_true, Option.bind_some]
    refine ⟨trivial, trivial, ?_⟩
    rcases Ap.res_keeps b c l e.f1 e.f2 e.f3 e.f4 h5 with ⟨_, q, _⟩ | ⟨_, q⟩
    · rw [q]; exact h4
    · rw [q]; simp
  · simp only [if_neg h]
    exact ⟨trivial, trivial, by simp⟩
theorem FnExactApplyEntry : SayFnExactApplyEntry.Pure := by
  intro b c l e0 e1 e2 e3 e4 _ _ hl _ x0 x1 x2 x3 x4
  refine Ev.rounds (?_ : Ev (fun k => laws_FnExactApplyEntry.f k b c l e0 e1 e2 e3 e4) true)
  unfold laws_FnExactApplyEntry.f laws_toPrices.f laws_toEntry.f
  simp only [szHoldingS_tells l hl 1048576 (by omega) (by omega), Option.bind_some]
  by_cases h1 : (1048576 : Int) < l.length
  · simp only [if_pos h1]
    exact Ev.now _
  · simp only [if_neg h1, if_neg (show ¬ ((1048576 : Int) - l.length < 0) by omega)]
    have T1 := ev_of (toHoldingS_tells l hl)
    have hlm : (l.map cHolding).length = l.length := by simp
    generalize l.map cHolding = L at T1 hlm
    obtain ⟨t1, t2, t3⟩ := tells b c L ⟨e0, e1, e2, e3, e4⟩ ⟨x0, x1, x2, x3, x4⟩
    simp only at t1 t2
    generalize out b c L ⟨e0, e1, e2, e3, e4⟩ = O at t1 t2 t3
    obtain ⟨O1, O2⟩ := O
    simp only at t3
    have A1 := ev_of (eqHoldingS_tells L (by omega))
    have A3 := ev_of (eqHoldingS_tells O1 (by omega))
    have A4 := ev_of (markHoldingS_tells L (by omega) 1 (by omega) (by omega))
    have A6 := ev_of (markHoldingS_tells O1 (by omega) 1 (by omega) (by omega))
    have A7 := ev_of (heldHoldingS_tells O1.length (by omega) 1 (by omega) (by omega))
    have A8 : ¬ (cnt 1 5 L.length < 0) := cnt_ok (by omega)
    have A9 : ¬ (cnt 1 5 O1.length < 0) := cnt_ok (by omega)
    clear hlm t3 h1 hl
    repeat (first
      | exact Ev.now _
      | simp only [t1, Option.bind_some]
      | simp only [t2, Option.bind_some]
      | refine Ev.bind T1 ?_
      | refine Ev.bind A1 ?_
      | refine Ev.bind A3 ?_
      | refine Ev.bind A4 ?_
      | refine Ev.bind A6 ?_
      | refine Ev.bind A7 ?_
      | simp only [if_true, bne_self, if_neg Bool.false_ne_true, if_neg A8, if_neg A9]
      | refine Ev.step (fun k => laws_FnExactApplyEntry.j0.eq_2 ..) ?_
      | (refine Ev.step (fun k => laws_FnExactApplyEntry.j1.eq_2 ..) ?_; simp only [if_neg Bool.false_ne_true, laws_toPrices.f, laws_toEntry.f, Option.bind_some])
      | refine Ev.step (fun k => laws_FnExactApplyEntry.j2.eq_2 ..) ?_)
end Go.Proofs.Ytncbgnlojabpfaa.PureFnExactApplyEntry
