/- FnExactFirstWrong: the program's FirstWrong answers as the reference's does, for all prices, holdings and entries that the law lets in. No condition. -/
import Derived.Test.YtncbgnlojabpfaaSayFnExactFirstWrong
import Derived.Test.YtncbgnlojabpfaaFLibApply
namespace Go.Proofs.Ytncbgnlojabpfaa.PureFnExactFirstWrong
open Go.RowKit Go.Proofs.YtncbgnlojabpfaaW.PrintWords Go.Proofs.Ytncbgnlojabpfaa.G Go.Proofs.Ytncbgnlojabpfaa.SayFnExactFirstWrong Go.Proofs.Ytncbgnlojabpfaa.Wk Go.Proofs.Ytncbgnlojabpfaa.Pl
set_option linter.unusedSimpArgs false
set_option linter.unusedVariables false
def out (b c : Int) (l : List Ap.H) (es : List Ap.En) : Int × Int × Int := if Ap.asked b c l es = 0 then (match spec_l06Replay.f b c l es (-1) with | some r => (if r.2.2 = 0 then (0, 0, 6) else (r.2.1, r.2.2, 0)) | none => (0, 0, 0)) else (0, 0, Ap.asked b c l es)
theorem tells (b c : Int) (l : List Ap.H) (es : List Ap.En) (hes : es.length ≤ 1048576) (hE : ∀ e ∈ es, Ap.En1 e) : spec_FirstWrong.f b c l es = some (out b c l es) ∧ Ev (fun k => impl_FirstWrong.f k b c l es) (out b c l es) := by
  unfold spec_FirstWrong.f impl_FirstWrong.f out
  simp only [Ap.asked_is, Option.bind_some]
  by_cases h : Ap.asked b c l es = 0
  · obtain ⟨r, r1, r2, r3, r4⟩ := Ap.replay_tells b c l es (-1) hes hE h
    simp only [if_pos h, r1, Option.bind_some]
    by_cases h0 : r.2.2 = 0
    · have := (r2 h0).1
      simp only [if_pos h0, if_pos (show r.2.1 < 0 by omega)]
      refine ⟨trivial, Ev.bind (Ap.ledgerCode_is b c l es (by omega)) ?_⟩
      simp only [if_pos h]
      refine Ev.bind r4 ?_
      simp only [if_pos h0]
      exact Ev.now _
    · have := (r3 h0).1
      simp only [if_neg h0, if_neg (show ¬ r.2.1 < 0 by omega)]
      refine ⟨trivial, Ev.bind (Ap.ledgerCode_is b c l es (by omega)) ?_⟩
      simp only [if_pos h]
      refine Ev.bind r4 ?_
      simp only [if_neg h0]
      exact Ev.now _
  · simp only [if_neg h]
    refine ⟨trivial, Ev.bind (Ap.ledgerCode_is b c l es (by omega)) ?_⟩
    simp only [if_neg h]
    exact Ev.now _
theorem FnExactFirstWrong : SayFnExactFirstWrong.Pure := by
  intro b c l es _ _ hl _ hs hx
  refine Ev.rounds (?_ : Ev (fun k => laws_FnExactFirstWrong.f k b c l es) true)
  unfold laws_FnExactFirstWrong.f laws_toPrices.f
  simp only [szHoldingS_tells l hl 1048576 (by omega) (by omega), Option.bind_some]
  by_cases h1 : (1048576 : Int) < l.length
  · simp only [if_pos h1]
    exact Ev.now _
  · simp only [if_neg h1, if_neg (show ¬ ((1048576 : Int) - l.length < 0) by omega)]
    simp only [szEntryS_tells es hs ((1048576 : Int) - l.length) (by omega) (by omega), Option.bind_some]
    by_cases h2 : (1048576 : Int) - l.length < es.length
    · simp only [if_pos h2]
      exact Ev.now _
    · simp only [if_neg h2, if_neg (show ¬ ((1048576 : Int) - l.length - es.length < 0) by omega)]
      have hE : ∀ e ∈ es.map cEntry, Ap.En1 e := by
        intro e he
        obtain ⟨x, hx1, rfl⟩ := List.mem_map.1 he
        exact hx x hx1
      have T1 := ev_of (toHoldingS_tells l hl)
      have T2 := ev_of (toEntryS_tells es hs)
      have hlm : (l.map cHolding).length = l.length := by simp
      have hsm : (es.map cEntry).length = es.length := by simp
      generalize l.map cHolding = L at T1 hlm
      generalize es.map cEntry = E at T2 hsm hE
      obtain ⟨t1, t2⟩ := tells b c L E (by omega) hE
      generalize out b c L E = O at t1 t2
      have A1 := ev_of (eqHoldingS_tells L (by omega))
      have A2 := ev_of (eqEntryS_tells E (by omega))
      clear hE hlm hsm h1 h2 hl hs hx
      repeat (first
        | exact Ev.now _
        | simp only [t1, Option.bind_some]
        | refine Ev.bind T1 ?_
        | refine Ev.bind T2 ?_
        | refine Ev.bind t2 ?_
        | refine Ev.bind A1 ?_
        | refine Ev.bind A2 ?_
        | simp only [if_true, bne_self, if_neg Bool.false_ne_true]
        | refine Ev.step (fun k => laws_FnExactFirstWrong.j0.eq_2 ..) ?_)
end Go.Proofs.Ytncbgnlojabpfaa.PureFnExactFirstWrong
