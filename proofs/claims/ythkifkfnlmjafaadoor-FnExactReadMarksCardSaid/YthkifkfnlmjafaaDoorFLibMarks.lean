/- Plain laws on marks: the reference's check, as the program's. -/
import Derived.Test.YthkifkfnlmjafaaDoorPl
import Derived.Test.YthkifkfnlmjafaaDoorFVMarks
import Derived.Test.YthkifkfnlmjafaaDoorFLibI64
import Derived.Test.YthkifkfnlmjafaaDoorG1
namespace Go.Proofs.YthkifkfnlmjafaaDoor.G
open Go.RowKit Go.Proofs.YthkifkfnlmjafaaDoorW.PrintWords Go.Proofs.YthkifkfnlmjafaaDoorW.PrintLast Go.Proofs.YthkifkfnlmjafaaDoorW.PrintMore
attribute [local go_sem] max2_int min2_int max_two min_two max_three min_three max_four min_four   -- for this text's walks alone
set_option linter.unusedVariables false
set_option linter.unusedSimpArgs false

open Go.Proofs.YthkifkfnlmjafaaDoor.Wk Go.Proofs.YthkifkfnlmjafaaDoor.Pl

theorem l07Ok_row (s : Int) (m : List (List Int)) (i : Nat) (hi : i < m.length) (hm : m.length ≤ 1048576) (hx : ∀ x ∈ m, (x.length : Int) ≤ 1048576) (r : Bool)
    (hyes : allB (m.getD i []) 0 20 = true → Ev (fun k => spec_l07Ok.l0 k s m ((i + 1 : Nat) : Int)) r) (hno : allB (m.getD i []) 0 20 = false → r = false) : Ev (fun k => spec_l07Ok.l1 k s m (i : Int) 0) r := by
  have hx1 : ((m.getD i []).length : Int) ≤ 1048576 := by rw [getD_lt hi]; exact hx _ (List.getElem_mem hi)
  have hall : allB (m.getD i []) 0 20 = (List.range (m.getD i []).length).all fun j => inB ((m.getD i []).getD j 0) 0 20 := all_range _ 0 _
  have hg : rd_L1 m (i : Int) = m.getD i [] := rfl
  have hr : ∀ j : Nat, rd (m.getD i []) (j : Int) = (m.getD i []).getD j 0 := fun _ => rfl
  have h := ev_all (F := fun k j => spec_l07Ok.l1 k s m (i : Int) j) (m.getD i []).length (fun j => inB ((m.getD i []).getD j 0) 0 20) r false
  rw [← hall] at h
  by_cases ha : allB (m.getD i []) 0 20 = true
  · rw [if_pos ha] at h
    refine h (fun j hj hp r2 h2 => ?_) (fun j hj hp => ?_) ?_
    · refine Ev.step (fun k => spec_l07Ok.l1.eq_2 s m i j k) ?_
      simp only [hg, hr, if_pos (show (0 : Int) ≤ (i : Int) by omega), if_pos (show (i : Int) < (m.length : Int) by omega), if_pos (show (j : Int) < ((m.getD i []).length : Int) by omega), if_pos (show (0 : Int) ≤ (j : Int) by omega), l00In_tells2, hp, Option.bind_some, if_true, w_i hj (show (m.getD i []).length ≤ 4611686018427387904 by omega)]
      exact h2
    · rw [hall, List.all_eq_true] at ha
      have := ha j (List.mem_range.2 hj)
      rw [hp] at this
      exact absurd this (by simp)
    · refine Ev.step (fun k => spec_l07Ok.l1.eq_2 s m i _ k) ?_
      simp only [hg, if_pos (show (0 : Int) ≤ (i : Int) by omega), if_pos (show (i : Int) < (m.length : Int) by omega), if_neg (show ¬ (((m.getD i []).length : Int) < ((m.getD i []).length : Int)) by omega), w_i hi (show m.length ≤ 4611686018427387904 by omega)]
      exact hyes ha
  · rw [if_neg ha] at h
    rcases first_bad (fun j => inB ((m.getD i []).getD j 0) 0 20) (m.getD i []).length with hb | ⟨q, hq, hb1, hb2⟩
    · exact absurd (by rw [hall, List.all_eq_true]; exact fun j hj => hb j (List.mem_range.1 hj)) ha
    · rw [hno (by simpa using ha)]
      have key := ev_steps (F := fun k j (_ : Unit) => spec_l07Ok.l1 k s m (i : Int) j) 0 q (Nat.zero_le _) (fun _ => ()) false (fun j _ hj h2 => by
        refine Ev.step (fun k => spec_l07Ok.l1.eq_2 s m i j k) ?_
        simp only [hg, hr, if_pos (show (0 : Int) ≤ (i : Int) by omega), if_pos (show (i : Int) < (m.length : Int) by omega), if_pos (show (j : Int) < ((m.getD i []).length : Int) by omega), if_pos (show (0 : Int) ≤ (j : Int) by omega), l00In_tells2, hb2 j hj, Option.bind_some, if_true, w_i (show j < (m.getD i []).length by omega) (show (m.getD i []).length ≤ 4611686018427387904 by omega)]
        exact h2) (by
        refine Ev.step (fun k => spec_l07Ok.l1.eq_2 s m i q k) ?_
        simp only [hg, hr, if_pos (show (0 : Int) ≤ (i : Int) by omega), if_pos (show (i : Int) < (m.length : Int) by omega), if_pos (show (q : Int) < ((m.getD i []).length : Int) by omega), if_pos (show (0 : Int) ≤ (q : Int) by omega), l00In_tells2, hb1, Option.bind_some, if_neg Bool.false_ne_true]
        exact Ev.now _)
      exact key
theorem l07Ok_tells (s : Int) (m : List (List Int)) (hm : m.length ≤ 1048576) (hx : ∀ x ∈ m, (x.length : Int) ≤ 1048576) : Ev (fun k => spec_l07Ok.f k s m) (marksB s m) := by
  have hloop : Ev (fun k => spec_l07Ok.l0 k s m 0) (m.all (rowB s)) := by
    rw [all_range m [] (rowB s)]
    have hg : ∀ i : Nat, rd_L1 m (i : Int) = m.getD i [] := fun _ => rfl
    have h := ev_all (F := fun k i => spec_l07Ok.l0 k s m i) m.length (fun i => rowB s (m.getD i [])) true false (fun i hi hp r h2 => by
      unfold rowB at hp
      rw [Bool.and_eq_true, decide_eq_true_eq] at hp
      refine Ev.step (fun k => spec_l07Ok.l0.eq_2 s m i k) ?_
      simp only [hg, if_pos (show (i : Int) < (m.length : Int) by omega), if_pos (show (0 : Int) ≤ (i : Int) by omega), if_pos hp.1]
      exact l07Ok_row s m i hi hm hx r (fun _ => h2) (fun hc => by rw [hp.2] at hc; exact absurd hc (by simp))) (fun i hi hp => by
      refine Ev.step (fun k => spec_l07Ok.l0.eq_2 s m i k) ?_
      simp only [hg, if_pos (show (i : Int) < (m.length : Int) by omega), if_pos (show (0 : Int) ≤ (i : Int) by omega)]
      by_cases hl : ((m.getD i []).length : Int) = s
      · simp only [if_pos hl]
        unfold rowB at hp
        rw [decide_eq_true hl, Bool.true_and] at hp
        exact l07Ok_row s m i hi hm hx false (fun hc => by rw [hp] at hc; exact absurd hc (by simp)) (fun _ => rfl)
      · simp only [if_neg hl]
        exact Ev.now _) (by
      refine Ev.step (fun k => spec_l07Ok.l0.eq_2 s m m.length k) ?_
      simp only [if_neg (show ¬ ((m.length : Int) < (m.length : Int)) by omega)]
      exact Ev.now _)
    have e : ∀ b : Bool, (if b = true then true else false) = b := by decide
    rw [e] at h
    exact h
  unfold spec_l07Ok.f spec_l07Samples.f marksB
  simp only [l00In_tells2, Option.bind_some]
  cases inB s 1 8
  · simp only [if_neg Bool.false_ne_true, Bool.false_and]
    refine Ev.step (fun k => spec_l07Ok.j0.eq_2 s m true k) ?_
    simp only [if_true]
    exact Ev.now _
  · simp only [if_true, Bool.true_and]
    refine Ev.step (fun k => spec_l07Ok.j0.eq_2 s m _ k) ?_
    by_cases h12 : (m.length : Int) > 12
    · simp only [decide_eq_true h12, if_true, decide_eq_false (show ¬ (m.length ≤ 12) by omega), Bool.false_and]
      exact Ev.now _
    · simp only [decide_eq_false h12, if_neg Bool.false_ne_true, decide_eq_true (show m.length ≤ 12 by omega), Bool.true_and]
      exact hloop
end Go.Proofs.YthkifkfnlmjafaaDoor.G
