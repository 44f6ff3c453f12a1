import Derived.Test.YthkifkfnlmjafaaZSayFnExactMissedWalks
import Derived.Test.YthkifkfnlmjafaaZFHpRow
import Derived.Test.YthkifkfnlmjafaaZFHpWalker
import Derived.Test.YthkifkfnlmjafaaZFLibMissW
namespace Go.Proofs.Ythkifkfnlmjafaa.PureFnExactMissedWalks
open Go.RowKit Go.Proofs.YthkifkfnlmjafaaW.PrintWords Go.Proofs.Ythkifkfnlmjafaa.G Go.Proofs.Ythkifkfnlmjafaa.SayFnExactMissedWalks Go.Proofs.Ythkifkfnlmjafaa.Wk Go.Proofs.Ythkifkfnlmjafaa.Pl LW
set_option linter.unusedSimpArgs false
set_option linter.unusedVariables false
theorem eqA2_t (l : List P2) : laws_eqInt64A2S.f l l = some true := by
  unfold laws_eqInt64A2S.f EqA2.eqs EqA2.eqB
  simp
theorem held_mk (l : List P2) (h : l.length ≤ 8000) : laws_heldInt64A2S.f ((List.range l.length).map (MarkA2.mk 1)) 1 = some (1 + 2 * (l.length : Int)) := by
  unfold laws_heldInt64A2S.f
  have hl : ((List.range l.length).map (MarkA2.mk 1)).length = l.length := by simp
  rw [hl, if_pos]
  refine ⟨?_, by omega, by omega, by omega⟩
  unfold HeldA2.ok
  rw [hl, List.all_eq_true]
  intro j hj
  have hj := List.mem_range.1 hj
  have : ((List.range l.length).map (MarkA2.mk 1)).getD j z64 = MarkA2.mk 1 j := by simp [List.getD, hj]
  rw [this]
  simp [MarkA2.mk]
theorem mark_t (k : Nat) (l : List P2) (h : l.length ≤ 8000) : laws_markInt64A2S.f k l 1 = some (1 + 2 * (l.length : Int), (List.range l.length).map (MarkA2.mk 1)) := by
  unfold laws_markInt64A2S.f
  rw [if_pos (by omega)]
theorem sz_tells (l : List S55) (hl : l.length * 12 ≤ 140737488351232) (n : Int) (h0 : 0 ≤ n) (h1 : n ≤ 1048576) : laws_szWalkerS.f l n = some (if n - (l.length : Int) < 0 then -1 else n - (l.length : Int)) := by
  unfold laws_szWalkerS.f
  rw [w_id (x := n - (l.length : Int)) (by omega) (by omega)]
  split <;> rfl
theorem FnExactMissedWalks : SayFnExactMissedWalks.Pure := by
  intro a b p c ha xa hb xb _ hc xc
  refine Ev.rounds (?_ : Ev (fun k => laws_FnExactMissedWalks.f k a b p c) true)
  unfold laws_FnExactMissedWalks.f
  by_cases g1 : (a.length : Int) > 1048576
  · simp only [if_pos g1]; exact Ev.now _
  by_cases g2 : (c.length : Int) > 1048576
  · simp only [if_neg g1, if_pos g2]; exact Ev.now _
  simp only [if_neg g1, if_neg g2, sz_tells b hb 1048576 (by omega) (by omega), Option.bind_some]
  by_cases h1 : (1048576 : Int) - (b.length : Int) < 0
  · simp only [if_pos h1, if_pos (show (-1 : Int) < 0 by omega)]
    exact Ev.now _
  · simp only [if_neg h1]
    have T1 := ev_of (toRow_tells a ha)
    have T2 := ev_of (toWalkerS_tells b hb)
    have T3 := ev_of (toRow_tells c hc)
    have hl2 : (b.map cWalker).length = b.length := by simp
    have hs : ∀ x ∈ b.map cWalker, SmallW x := fun x hx => by
      obtain ⟨y, hy, rfl⟩ := List.mem_map.1 hx
      exact xb y hy
    generalize b.map cWalker = B at T2 hl2 hs
    obtain ⟨⟨O1, O2⟩, t3, t1, t2⟩ := missed_same a B p c xa hs (by omega) (by omega) (by omega)
    simp only at t3
    have A1 := ev_of (eqRow_tells a (by omega))
    have A2 := ev_of (eqWalkerS_tells B (by omega))
    have A3 := ev_of (eqRow_tells c (by omega))
    have A4 := ev_of (markRow_tells a (by omega) 1 (by omega) (by omega))
    have q1 : 0 ≤ cnt 1 1 a.length ∧ cnt 1 1 a.length ≤ 1152921504606846976 := by unfold cnt; omega
    have A5 := ev_of (markWalkerS_tells B (by omega) (cnt 1 1 a.length) q1.1 q1.2)
    have q2 : 0 ≤ cnt (cnt 1 1 a.length) 6 B.length ∧ cnt (cnt 1 1 a.length) 6 B.length ≤ 1152921504606846976 := by unfold cnt; omega
    have A6 := ev_of (markRow_tells c (by omega) (cnt (cnt 1 1 a.length) 6 B.length) q2.1 q2.2)
    have A7 := held_mk O1 t3
    have A8 : ¬ (cnt (cnt (cnt 1 1 a.length) 6 B.length) 1 c.length < 0) := cnt_ok q2.1
    have A9 : ¬ (1 + 2 * (O1.length : Int) < 0) := by omega
    have A10 := fun k => mark_t k O1 t3
    have A11 := eqA2_t O1
    clear hl2 h1 ha hb hc q1 q2 g1 g2 hs xa xb xc t3
    repeat (first
      | exact Ev.now _
      | simp only [Option.bind_some, A7, A10, A11]
      | refine Ev.bind t1 ?_
      | refine Ev.bind t2 ?_
      | refine Ev.bind T1 ?_
      | refine Ev.bind T2 ?_
      | refine Ev.bind T3 ?_
      | refine Ev.bind A1 ?_
      | refine Ev.bind A2 ?_
      | refine Ev.bind A3 ?_
      | refine Ev.bind A4 ?_
      | refine Ev.bind A5 ?_
      | refine Ev.bind A6 ?_
      | simp only [if_true, bne_self, if_neg Bool.false_ne_true, if_neg A8, if_neg A9]
      | refine Ev.step (fun k => laws_FnExactMissedWalks.j0.eq_2 ..) ?_
      | refine Ev.step (fun k => laws_FnExactMissedWalks.j1.eq_2 ..) ?_
      | refine Ev.step (fun k => laws_FnExactMissedWalks.j2.eq_2 ..) ?_)
end Go.Proofs.Ythkifkfnlmjafaa.PureFnExactMissedWalks
