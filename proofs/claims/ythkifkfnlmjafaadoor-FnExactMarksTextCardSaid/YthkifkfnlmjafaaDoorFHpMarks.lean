/- Plain laws on the helpers of the laws: Marks (rows of rows). -/
import Derived.Test.YthkifkfnlmjafaaDoorPl
import Derived.Test.YthkifkfnlmjafaaDoorFHpI64
import Derived.Test.YthkifkfnlmjafaaDoorG1
import Derived.Test.YthkifkfnlmjafaaDoorG1
import Derived.Test.YthkifkfnlmjafaaDoorG1
namespace Go.Proofs.YthkifkfnlmjafaaDoor.G
open Go.RowKit Go.Proofs.YthkifkfnlmjafaaDoorW.PrintWords Go.Proofs.YthkifkfnlmjafaaDoorW.PrintLast Go.Proofs.YthkifkfnlmjafaaDoorW.PrintMore
attribute [local go_sem] max2_int min2_int max_two min_two max_three min_three max_four min_four   -- for this text's walks alone
set_option linter.unusedVariables false
set_option linter.unusedSimpArgs false

open Go.Proofs.YthkifkfnlmjafaaDoor.Wk Go.Proofs.YthkifkfnlmjafaaDoor.Pl

theorem szMarks_tells (l : List (List Int)) (hl : l.length * 24 ≤ 140737488351232) (hx : ∀ x ∈ l, x.length ≤ 9223372036854775807) (n : Int) (h0 : 0 ≤ n) (h1 : n ≤ 1048576) :
    Ev (fun k => laws_szMarks.f k l n) (-1) ∨ (((l.length : Int) ≤ n ∧ ∀ x ∈ l, (x.length : Int) ≤ n) ∧ ∃ m, (0 ≤ m ∧ m ≤ n) ∧ Ev (fun k => laws_szMarks.f k l n) m) := by
  have key : ∀ d (i : Nat) (s : Int), i + d = l.length → 0 ≤ s → s ≤ n → Ev (fun k => laws_szMarks.l0 k l s (i : Int)) (-1) ∨ ((∀ j, i ≤ j → j < l.length → ((l.getD j []).length : Int) ≤ n) ∧ ∃ m, (0 ≤ m ∧ m ≤ n) ∧ Ev (fun k => laws_szMarks.l0 k l s (i : Int)) m) := by
    intro d
    induction d with
    | zero =>
      intro i s hi h2 h3
      right
      refine ⟨fun j hj hj2 => by omega, s, ⟨h2, h3⟩, Ev.step (fun k => laws_szMarks.l0.eq_2 l s i k) ?_⟩
      simp only [if_neg (show ¬ ((i : Int) < (l.length : Int)) by omega)]
      exact Ev.now _
    | succ d ih =>
      intro i s hi h2 h3
      have hlt : i < l.length := by omega
      have hg : (rd_L1 l (i : Int)) = l.getD i [] := rfl
      have hx1 : (l.getD i []).length ≤ 9223372036854775807 := by rw [getD_lt hlt]; exact hx _ (List.getElem_mem hlt)
      have hw : wrap64 (s - ((l.getD i []).length : Int)) = s - ((l.getD i []).length : Int) := w_id (by omega) (by omega)
      have st : ∀ r, Ev (fun k => if s - ((l.getD i []).length : Int) < 0 then some (-1) else laws_szMarks.l0 k l (s - ((l.getD i []).length : Int)) ((i + 1 : Nat) : Int)) r → Ev (fun k => laws_szMarks.l0 k l s (i : Int)) r := by
        intro r h
        refine Ev.step (fun k => laws_szMarks.l0.eq_2 l s i k) ?_
        simp only [if_pos (show (i : Int) < (l.length : Int) by omega), if_pos (show (0 : Int) ≤ (i : Int) by omega)]
        unfold laws_szInt64S.f
        simp only [hg, hw, w_i hlt (show l.length ≤ 4611686018427387904 by omega)]
        by_cases hb : s - ((l.getD i []).length : Int) < 0
        · simp only [if_pos hb, Option.bind_some] at h ⊢
          simp only [if_pos (show (-1 : Int) < 0 by omega)]
          exact h
        · simp only [if_neg hb, Option.bind_some] at h ⊢
          exact h
      by_cases hb : s - ((l.getD i []).length : Int) < 0
      · left
        apply st
        simp only [if_pos hb]
        exact Ev.now _
      · rcases ih (i + 1) (s - ((l.getD i []).length : Int)) (by omega) (by omega) (by omega) with h | ⟨ha, m, hm, h⟩
        · left
          apply st
          simp only [if_neg hb]
          exact h
        · right
          refine ⟨fun j hj hj2 => ?_, m, hm, st m (by simp only [if_neg hb]; exact h)⟩
          by_cases e : j = i
          · subst e; omega
          · exact ha j (by omega) hj2
  unfold laws_szMarks.f
  rw [w_id (x := n - (l.length : Int)) (by omega) (by omega)]
  by_cases hb : n - (l.length : Int) < 0
  · left
    simp only [if_pos hb]
    exact Ev.now _
  · simp only [if_neg hb]
    rcases key l.length 0 (n - (l.length : Int)) (by omega) (by omega) (by omega) with h | ⟨ha, h⟩
    · exact .inl h
    · refine .inr ⟨⟨by omega, fun x hx => ?_⟩, h⟩
      obtain ⟨j, hj, rfl⟩ := List.getElem_of_mem hx
      have := ha j (Nat.zero_le _) hj
      rwa [getD_lt hj] at this
theorem toMarks_tells (l : List (List Int)) (hl : l.length ≤ 1048576) (hx : ∀ x ∈ l, (x.length : Int) ≤ 1048576) : Ev (fun k => laws_toMarks.f k l) l := by
  unfold laws_toMarks.f
  simp only [if_pos (show (0 : Int) ≤ (l.length : Int) by omega), Int.toNat_natCast, if_pos (show l.length ≤ 11728124029610 by omega)]
  have h := ev_steps (F := fun k i (x : List (List Int)) => laws_toMarks.l0 k l x i) 0 l.length (Nat.zero_le _) (fun i => ((List.range i).map fun j => l.getD j []) ++ (List.replicate l.length []).drop i) l (fun i _ hi h => by
    have hx1 : ((l.getD i []).length : Int) ≤ 1048576 := by rw [getD_lt hi]; exact hx _ (List.getElem_mem hi)
    refine Ev.step (fun k => laws_toMarks.l0.eq_2 l _ i k) ?_
    simp only [if_pos (show (i : Int) < (l.length : Int) by omega), if_pos (show (0 : Int) ≤ (i : Int) by omega)]
    refine Ev.bind (ev_of (toInt64S_tells (l.getD i []) (by omega))) ?_
    simp only [if_pos (show (i : Int) < (((((List.range i).map fun j => l.getD j []) ++ (List.replicate l.length []).drop i).length : Nat) : Int) by simp; omega)]
    rw [w_i hi (by omega), Int.toNat_natCast, set_step (fun j => l.getD j []) l.length i hi [] (List.replicate l.length []) (by simp)]
    exact h) (by
    refine Ev.step (fun k => laws_toMarks.l0.eq_2 l _ l.length k) ?_
    simp only [if_neg (show ¬ ((l.length : Int) < (l.length : Int)) by omega)]
    have h2 := map_range l [] id
    simp only [id, List.map_id_fun] at h2
    simp only [h2, List.drop_replicate, Nat.sub_self, List.replicate_zero, List.append_nil]
    exact Ev.now _)
  simpa using h
theorem eqMarks_tells (l : List (List Int)) (hl : l.length ≤ 1048576) (hx : ∀ x ∈ l, (x.length : Int) ≤ 1048576) : Ev (fun k => laws_eqMarks.f k l l) true := by
  unfold laws_eqMarks.f
  simp only [if_true]
  exact ev_steps (F := fun k i (_ : Unit) => laws_eqMarks.l0 k l l i) 0 l.length (Nat.zero_le _) (fun _ => ()) true (fun i _ hi h => by
    have hx1 : ((l.getD i []).length : Int) ≤ 1048576 := by rw [getD_lt hi]; exact hx _ (List.getElem_mem hi)
    refine Ev.step (fun k => laws_eqMarks.l0.eq_2 l l i k) ?_
    simp only [if_pos (show (i : Int) < (l.length : Int) by omega), if_pos (show (0 : Int) ≤ (i : Int) by omega)]
    refine Ev.bind (ev_of (eqInt64S_tells (l.getD i []) (by omega))) ?_
    simp only [if_true, w_i hi (show l.length ≤ 4611686018427387904 by omega)]
    exact h) (by
    refine Ev.step (fun k => laws_eqMarks.l0.eq_2 l l l.length k) ?_
    simp only [if_neg (show ¬ ((l.length : Int) < (l.length : Int)) by omega)]
    exact Ev.now _)
end Go.Proofs.YthkifkfnlmjafaaDoor.G
