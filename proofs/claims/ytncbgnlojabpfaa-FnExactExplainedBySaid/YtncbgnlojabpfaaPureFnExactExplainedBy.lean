/- FnExactExplainedBy: the program's ExplainedBy answers as the reference's does, for all prices, holdings and entries that the law lets in. No condition. -/
import Derived.Test.YtncbgnlojabpfaaSayFnExactExplainedBy
import Derived.Test.YtncbgnlojabpfaaFLibApply
namespace Go.Proofs.Ytncbgnlojabpfaa.PureFnExactExplainedBy
open Go.RowKit Go.Proofs.YtncbgnlojabpfaaW.PrintWords Go.Proofs.Ytncbgnlojabpfaa.G Go.Proofs.Ytncbgnlojabpfaa.SayFnExactExplainedBy Go.Proofs.Ytncbgnlojabpfaa.Wk Go.Proofs.Ytncbgnlojabpfaa.Pl
set_option linter.unusedSimpArgs false
set_option linter.unusedVariables false
def neB (a b : Ap.H) : Bool := (!(a.f0 == b.f0) || (!(a.f1 == b.f1) || (!(a.f2 == b.f2) || (!(a.f3 == b.f3) || (!(a.f4 == b.f4))))))
def sameB (a b : List Ap.H) : Bool := decide (a.length = b.length) && (List.range a.length).all fun j => !(neB (a.getD j z71) (b.getD j z71))
theorem loop_tells {F : Nat → Int → Option Bool} (a b : List Ap.H) (hn : a.length ≤ 4611686018427387904) (hl : a.length = b.length)
    (hF : ∀ k (i : Nat), i < a.length → F (k + 1) i = if neB (a.getD i z71) (b.getD i z71) = true then some false else F k (wrap64 ((i : Int) + 1))) (hend : ∀ k, F (k + 1) a.length = some true) : ∀ k, a.length < k → F k 0 = some (sameB a b) := by
  rcases first_bad (fun j => !(neB (a.getD j z71) (b.getD j z71))) a.length with h | ⟨m, hm, hbad, hb⟩
  · have e : sameB a b = true := by
      unfold sameB
      simp only [hl, decide_true, Bool.true_and, List.all_eq_true]
      intro j hj
      exact h j (by rw [hl]; exact List.mem_range.1 hj)
    rw [e]
    intro k hk
    refine run_loop (F := fun k i (_ : Unit) => F k i) hn (fun _ => ()) _ (fun k i hi => ?_) (fun k => hend k) k hk
    have h2 := h i hi
    simp only [Bool.not_eq_true'] at h2
    show F (k + 1) i = _
    rw [hF k i hi, if_neg (by rw [h2]; simp)]
  · have e : sameB a b = false := by
      unfold sameB
      simp only [hl, decide_true, Bool.true_and, List.all_eq_false]
      exact ⟨m, List.mem_range.2 (by omega), by simpa using hbad⟩
    rw [e]
    intro k hk
    refine run_loop (F := fun k i (_ : Unit) => F k i) (n := m) (by omega) (fun _ => ()) _ (fun k i hi => ?_) (fun k => ?_) k (by omega)
    · have h2 := hb i hi
      simp only [Bool.not_eq_true'] at h2
      show F (k + 1) i = _
      rw [hF k i (by omega), if_neg (by rw [h2]; simp)]
    · show F (k + 1) m = _
      have h2 : neB (a.getD m z71) (b.getD m z71) = true := by simpa using hbad
      rw [hF k m hm, if_pos h2]
theorem spec_eq (a b : List Ap.H) (hn : a.length ≤ 4611686018427387904) : Ev (fun k => spec_l06Equal.f k a b) (sameB a b) := by
  refine ev_of (n := a.length) fun k hk => ?_
  unfold spec_l06Equal.f
  by_cases h : a.length = b.length
  · rw [if_pos (by omega)]
    refine loop_tells (F := fun k i => spec_l06Equal.l0 k a b i) a b hn h (fun k i hi => ?_) (fun k => ?_) k hk
    · have h1 : (i : Int) < (a.length : Int) := by omega
      show spec_l06Equal.l0 (k + 1) a b i = _
      simp only [spec_l06Equal.l0]
      rw [if_pos h1, if_pos (by omega), if_pos (by omega)]
      rfl
    · show spec_l06Equal.l0 (k + 1) a b _ = _
      simp only [spec_l06Equal.l0]
      rw [if_neg (by omega)]
  · rw [if_neg (by omega)]
    unfold sameB
    simp [h]
theorem impl_eq (a b : List Ap.H) (hn : a.length ≤ 4611686018427387904) : Ev (fun k => impl_Holding_71.f k a b) (sameB a b) := by
  refine ev_of (n := a.length) fun k hk => ?_
  unfold impl_Holding_71.f
  by_cases h : a.length = b.length
  · rw [if_pos (by omega)]
    refine loop_tells (F := fun k i => impl_Holding_71.l0 k a b (a.length : Int) i) a b hn h (fun k i hi => ?_) (fun k => ?_) k hk
    · have h1 : (i : Int) < (a.length : Int) := by omega
      show impl_Holding_71.l0 (k + 1) a b (a.length : Int) i = _
      simp only [impl_Holding_71.l0]
      rw [if_pos h1, if_pos (by omega), if_pos h1, if_pos (by omega)]
      rfl
    · show impl_Holding_71.l0 (k + 1) a b (a.length : Int) _ = _
      simp only [impl_Holding_71.l0]
      rw [if_neg (by omega)]
  · rw [if_neg (by omega)]
    unfold sameB
    simp [h]
theorem loops (b c : Int) (l : List Ap.H) (es : List Ap.En) (cs : List Ap.H) (hes : es.length ≤ 1048576) (hE : ∀ e ∈ es, Ap.En1 e) (h : Ap.asked b c l es = 0) :
    ∀ d (i : Nat), i + d = es.length + 1 → ∃ r : Int × Int, Ev (fun k => spec_ExplainedBy.l0 k l es cs i b c) r ∧ Ev (fun k => impl_ExplainedBy.l0 k l es cs ((es.length : Int) + 1) i b c) r := by
  intro d
  induction d with
  | zero =>
    intro i hi
    refine ⟨(0, 6), Ev.step (fun k => spec_ExplainedBy.l0.eq_2 ..) ?_, Ev.step (fun k => impl_ExplainedBy.l0.eq_2 ..) ?_⟩
    · simp only [if_neg (show ¬ ((i : Int) ≤ (es.length : Int)) by omega)]
      exact Ev.now _
    · simp only [if_neg (show ¬ ((i : Int) < (es.length : Int) + 1) by omega)]
      exact Ev.now _
  | succ d ih =>
    intro i hi
    obtain ⟨r, r1, r2⟩ := ih (i + 1) (by omega)
    obtain ⟨q, q1, q2, q3, q4⟩ := Ap.replay_tells b c l es (i : Int) hes hE h
    have hw : wrap64 ((i : Int) + 1) = ((i + 1 : Nat) : Int) := w_i (n := i + 1) (by omega) (by omega)
    by_cases h0 : q.2.2 = 0
    · have hq := (q2 h0).2
      cases hs : sameB q.1 cs
      · refine ⟨r, Ev.step (fun k => spec_ExplainedBy.l0.eq_2 ..) ?_, Ev.step (fun k => impl_ExplainedBy.l0.eq_2 ..) ?_⟩
        · simp only [if_pos (show (i : Int) ≤ (es.length : Int) by omega), q1, Option.bind_some, if_pos h0]
          refine Ev.bind (spec_eq q.1 cs (by omega)) ?_
          simp only [hs, if_neg Bool.false_ne_true, hw]
          exact r1
        · simp only [if_pos (show (i : Int) < (es.length : Int) + 1 by omega)]
          refine Ev.bind q4 ?_
          simp only [if_pos h0]
          refine Ev.bind (impl_eq q.1 cs (by omega)) ?_
          simp only [hs, if_neg Bool.false_ne_true, hw]
          exact r2
      · refine ⟨((i : Int), 0), Ev.step (fun k => spec_ExplainedBy.l0.eq_2 ..) ?_, Ev.step (fun k => impl_ExplainedBy.l0.eq_2 ..) ?_⟩
        · simp only [if_pos (show (i : Int) ≤ (es.length : Int) by omega), q1, Option.bind_some, if_pos h0]
          refine Ev.bind (spec_eq q.1 cs (by omega)) ?_
          simp only [hs, if_true]
          exact Ev.now _
        · simp only [if_pos (show (i : Int) < (es.length : Int) + 1 by omega)]
          refine Ev.bind q4 ?_
          simp only [if_pos h0]
          refine Ev.bind (impl_eq q.1 cs (by omega)) ?_
          simp only [hs, if_true]
          exact Ev.now _
    · refine ⟨r, Ev.step (fun k => spec_ExplainedBy.l0.eq_2 ..) ?_, Ev.step (fun k => impl_ExplainedBy.l0.eq_2 ..) ?_⟩
      · simp only [if_pos (show (i : Int) ≤ (es.length : Int) by omega), q1, Option.bind_some, if_neg h0, hw]
        exact r1
      · simp only [if_pos (show (i : Int) < (es.length : Int) + 1 by omega)]
        refine Ev.bind q4 ?_
        simp only [if_neg h0, hw]
        exact r2
theorem tells (b c : Int) (l : List Ap.H) (es : List Ap.En) (cs : List Ap.H) (hes : es.length ≤ 1048576) (hE : ∀ e ∈ es, Ap.En1 e) : ∃ r : Int × Int, Ev (fun k => spec_ExplainedBy.f k b c l es cs) r ∧ Ev (fun k => impl_ExplainedBy.f k b c l es cs) r := by
  unfold spec_ExplainedBy.f impl_ExplainedBy.f
  simp only [Ap.asked_is, Option.bind_some]
  by_cases hlen : (cs.length : Int) = (l.length : Int)
  · simp only [if_pos hlen]
    by_cases h : Ap.asked b c l es = 0
    · obtain ⟨_, h2, h3, h4, h5⟩ := Ap.asked_says h
      rcases holdsCode_cases cs with ⟨g, g1, g2, g3⟩ | g | g
      · obtain ⟨r, r1, r2⟩ := loops b c l es cs hes hE h (es.length + 1) 0 (by omega)
        refine ⟨r, Ev.step (fun k => spec_ExplainedBy.j0.eq_2 ..) ?_, Ev.bind (Ap.ledgerCode_is b c l es (by omega)) ?_⟩
        · unfold spec_l06Holdings.f
          simp only [if_pos h, g, Option.bind_some]
          refine Ev.step (fun k => spec_ExplainedBy.j1.eq_2 ..) ?_
          simp only [if_true]
          exact r1
        · unfold impl_areHeld.f
          simp only [if_pos h, g3, Option.bind_some, if_true, w_id (x := (es.length : Int) + 1) (by omega) (by omega)]
          exact r2
      · exfalso
        unfold holdsCode at g
        rw [inB_yes (by omega) (by omega), if_pos rfl] at g
        split at g <;> cases g
      · refine ⟨(0, 2), Ev.step (fun k => spec_ExplainedBy.j0.eq_2 ..) ?_, Ev.bind (Ap.ledgerCode_is b c l es (by omega)) ?_⟩
        · unfold spec_l06Holdings.f
          simp only [if_pos h, g, Option.bind_some]
          refine Ev.step (fun k => spec_ExplainedBy.j1.eq_2 ..) ?_
          simp only [if_neg (show ¬ ((2 : Int) = 0) by omega)]
          exact Ev.now _
        · have g3 : cs.all hB = false := by
            unfold holdsCode at g
            rw [inB_yes (by omega) (by omega), if_pos rfl] at g
            cases e : cs.all hB
            · rfl
            · rw [e] at g; cases g
          unfold impl_areHeld.f
          simp only [if_pos h, g3, Option.bind_some, if_neg Bool.false_ne_true]
          exact Ev.now _
    · refine ⟨(0, Ap.asked b c l es), Ev.step (fun k => spec_ExplainedBy.j0.eq_2 ..) ?_, Ev.bind (Ap.ledgerCode_is b c l es (by omega)) ?_⟩
      · simp only [if_neg h]
        refine Ev.step (fun k => spec_ExplainedBy.j1.eq_2 ..) ?_
        simp only [if_neg h]
        exact Ev.now _
      · simp only [if_neg h]
        exact Ev.now _
  · simp only [if_neg hlen]
    refine ⟨(0, 1), Ev.step (fun k => spec_ExplainedBy.j0.eq_2 ..) ?_, Ev.now _⟩
    simp only [if_neg (show ¬ ((1 : Int) = 0) by omega)]
    refine Ev.step (fun k => spec_ExplainedBy.j1.eq_2 ..) ?_
    simp only [if_neg (show ¬ ((1 : Int) = 0) by omega)]
    exact Ev.now _
theorem FnExactExplainedBy : SayFnExactExplainedBy.Pure := by
  intro b c l es cs _ _ hl _ hs hx hl3 _
  refine Ev.rounds (?_ : Ev (fun k => laws_FnExactExplainedBy.f k b c l es cs) true)
  unfold laws_FnExactExplainedBy.f laws_toPrices.f
  simp only [szHoldingS_tells l hl 1048576 (by omega) (by omega), Option.bind_some]
  by_cases h1 : (1048576 : Int) < l.length
  · simp only [if_pos h1]
    exact Ev.now _
  · simp only [if_neg h1, if_neg (show ¬ ((1048576 : Int) - l.length < 0) by omega)]
    simp only [szEntryS_tells es hs ((1048576 : Int) - l.length) (by omega) (by omega), Option.bind_some]
    by_cases h2 : (1048576 : Int) - l.length < es.length
    · simp only [if_pos h2]
      exact Ev.now _
    · simp only [if_neg h2, if_neg (show ¬ ((1048576 : Int) - l.length - es.length < 0) by omega)]
      simp only [szHoldingS_tells cs hl3 ((1048576 : Int) - l.length - es.length) (by omega) (by omega), Option.bind_some]
      by_cases h3 : (1048576 : Int) - l.length - es.length < cs.length
      · simp only [if_pos h3]
        exact Ev.now _
      · simp only [if_neg h3, if_neg (show ¬ ((1048576 : Int) - l.length - es.length - cs.length < 0) by omega)]
        have hE : ∀ e ∈ es.map cEntry, Ap.En1 e := by
          intro e he
          obtain ⟨x, hx1, rfl⟩ := List.mem_map.1 he
          exact hx x hx1
        have T1 := ev_of (toHoldingS_tells l hl)
        have T2 := ev_of (toEntryS_tells es hs)
        have T3 := ev_of (toHoldingS_tells cs hl3)
        have hlm : (l.map cHolding).length = l.length := by simp
        have hsm : (es.map cEntry).length = es.length := by simp
        have hcm : (cs.map cHolding).length = cs.length := by simp
        generalize l.map cHolding = L at T1 hlm
        generalize es.map cEntry = E at T2 hsm hE
        generalize cs.map cHolding = C at T3 hcm
        obtain ⟨r, t1, t2⟩ := tells b c L E C (by omega) hE
        have A1 := ev_of (eqHoldingS_tells L (by omega))
        have A2 := ev_of (eqEntryS_tells E (by omega))
        have A3 := ev_of (eqHoldingS_tells C (by omega))
        clear hE hlm hsm hcm h1 h2 h3 hl hs hl3 hx
        repeat (first
          | exact Ev.now _
          | refine Ev.bind T1 ?_
          | refine Ev.bind T2 ?_
          | refine Ev.bind T3 ?_
          | refine Ev.bind t1 ?_
          | refine Ev.bind t2 ?_
          | refine Ev.bind A1 ?_
          | refine Ev.bind A2 ?_
          | refine Ev.bind A3 ?_
          | simp only [if_true, bne_self, if_neg Bool.false_ne_true]
          | refine Ev.step (fun k => laws_FnExactExplainedBy.j0.eq_2 ..) ?_)
end Go.Proofs.Ytncbgnlojabpfaa.PureFnExactExplainedBy
