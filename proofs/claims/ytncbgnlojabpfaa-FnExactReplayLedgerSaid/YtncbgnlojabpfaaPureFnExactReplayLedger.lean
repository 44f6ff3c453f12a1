/- FnExactReplayLedger: the program's ReplayLedger answers as the reference's does, for all prices, holdings and entries that the law lets in. No condition. -/
import Derived.Test.YtncbgnlojabpfaaSayFnExactReplayLedger
import Derived.Test.YtncbgnlojabpfaaFLibApply
namespace Go.Proofs.Ytncbgnlojabpfaa.PureFnExactReplayLedger
open Go.RowKit Go.Proofs.YtncbgnlojabpfaaW.PrintWords Go.Proofs.Ytncbgnlojabpfaa.G Go.Proofs.Ytncbgnlojabpfaa.SayFnExactReplayLedger Go.Proofs.Ytncbgnlojabpfaa.Wk Go.Proofs.Ytncbgnlojabpfaa.Pl
set_option linter.unusedSimpArgs false
set_option linter.unusedVariables false
def out (b c : Int) (l : List Ap.H) (es : List Ap.En) : List Ap.H × Int := if Ap.asked b c l es = 0 then (match spec_l06Replay.f b c l es (-1) with | some r => (r.1, r.2.2) | none => ([], 0)) else ([], Ap.asked b c l es)
theorem tells (b c : Int) (l : List Ap.H) (es : List Ap.En) (hes : es.length ≤ 1048576) (hE : ∀ e ∈ es, Ap.En1 e) : spec_ReplayLedger.f b c l es = some (out b c l es) ∧ Ev (fun k => impl_ReplayLedger.f k b c l es) (out b c l es) ∧ (out b c l es).1.length ≤ 6 := by
  unfold spec_ReplayLedger.f impl_ReplayLedger.f out
  simp only [Ap.asked_is, Option.bind_some]
  by_cases h : Ap.asked b c l es = 0
  · obtain ⟨r, r1, r2, r3, r4⟩ := Ap.replay_tells b c l es (-1) hes hE h
    simp only [if_pos h, r1, Option.bind_some]
    refine ⟨trivial, Ev.bind (Ap.ledgerCode_is b c l es (by omega)) ?_, ?_⟩
    · simp only [if_pos h]
      refine Ev.bind r4 ?_
      exact Ev.now _
    · by_cases h0 : r.2.2 = 0
      · exact (r2 h0).2
      · rw [(r3 h0).2]; simp
  · simp only [if_neg h]
    refine ⟨trivial, Ev.bind (Ap.ledgerCode_is b c l es (by omega)) ?_, by simp⟩
    simp only [if_neg h]
    exact Ev.now _
theorem FnExactReplayLedger : SayFnExactReplayLedger.Pure := by
  intro b c l es _ _ hl _ hs hx
  refine Ev.rounds (?_ : Ev (fun k => laws_FnExactReplayLedger.f k b c l es) true)
  unfold laws_FnExactReplayLedger.f laws_toPrices.f
  simp only [szHoldingS_tells l hl 1048576 (by omega) (by omega), Option.bind_some]
  by_cases h1 : (1048576 : Int) < l.length
  · simp only [if_pos h1]
    exact Ev.now _
  · simp only [if_neg h1, if_neg (show ¬ ((1048576 : Int) - l.length < 0) by omega)]
    simp only [szEntryS_tells es hs ((1048576 : Int) - l.length) (by omega) (by omega), Option.bind_some]
    by_cases h2 : (1048576 : Int) - l.length < es.length
    · simp only [if_pos h2]
      exact Ev.now _
    · simp only [if_neg h2, if_neg (show ¬ ((1048576 : Int) - l.length - es.length < 0) by omega)]
      have hE : ∀ e ∈ es.map cEntry, Ap.En1 e := by
        intro e he
        obtain ⟨x, hx1, rfl⟩ := List.mem_map.1 he
        exact hx x hx1
      have T1 := ev_of (toHoldingS_tells l hl)
      have T2 := ev_of (toEntryS_tells es hs)
      have hlm : (l.map cHolding).length = l.length := by simp
      have hsm : (es.map cEntry).length = es.length := by simp
      generalize l.map cHolding = L at T1 hlm
      generalize es.map cEntry = E at T2 hsm hE
      obtain ⟨t1, t2, t3⟩ := tells b c L E (by omega) hE
      generalize out b c L E = O at t1 t2 t3
      obtain ⟨O1, O2⟩ := O
      simp only at t3
      have A1 := ev_of (eqHoldingS_tells L (by omega))
      have A2 := ev_of (eqEntryS_tells E (by omega))
      have A3 := ev_of (eqHoldingS_tells O1 (by omega))
      have A4 := ev_of (markHoldingS_tells L (by omega) 1 (by omega) (by omega))
      have A5 := ev_of (markEntryS_tells E (by omega) (cnt 1 5 L.length) (by unfold cnt; omega) (by unfold cnt; omega))
      have A6 := ev_of (markHoldingS_tells O1 (by omega) 1 (by omega) (by omega))
      have A7 := ev_of (heldHoldingS_tells O1.length (by omega) 1 (by omega) (by omega))
      have A8 : ¬ (cnt (cnt 1 5 L.length) 5 E.length < 0) := cnt_ok (by unfold cnt; omega)
      have A9 : ¬ (cnt 1 5 O1.length < 0) := cnt_ok (by omega)
      clear hE hlm hsm t3 h1 h2 hl hs hx
      repeat (first
        | exact Ev.now _
        | simp only [t1, Option.bind_some]
        | refine Ev.bind T1 ?_
        | refine Ev.bind T2 ?_
        | refine Ev.bind t2 ?_
        | refine Ev.bind A1 ?_
        | refine Ev.bind A2 ?_
        | refine Ev.bind A3 ?_
        | refine Ev.bind A4 ?_
        | refine Ev.bind A5 ?_
        | refine Ev.bind A6 ?_
        | refine Ev.bind A7 ?_
        | simp only [if_true, bne_self, if_neg Bool.false_ne_true, if_neg A8, if_neg A9]
        | refine Ev.step (fun k => laws_FnExactReplayLedger.j0.eq_2 ..) ?_
        | (refine Ev.step (fun k => laws_FnExactReplayLedger.j1.eq_2 ..) ?_; simp only [if_neg Bool.false_ne_true, laws_toPrices.f, Option.bind_some])
        | refine Ev.step (fun k => laws_FnExactReplayLedger.j2.eq_2 ..) ?_)
end Go.Proofs.Ytncbgnlojabpfaa.PureFnExactReplayLedger
