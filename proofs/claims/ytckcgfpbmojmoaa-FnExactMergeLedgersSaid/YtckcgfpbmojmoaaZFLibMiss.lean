import Derived.Test.YtckcgfpbmojmoaaZPl
import Derived.Test.YtckcgfpbmojmoaaZFMissing
import Derived.Test.YtckcgfpbmojmoaaZG2
namespace Go.Proofs.Ytckcgfpbmojmoaa.G
open Go.RowKit Go.Proofs.YtckcgfpbmojmoaaW.PrintWords Go.Proofs.YtckcgfpbmojmoaaW.PrintLast Go.Proofs.YtckcgfpbmojmoaaW.PrintMore
attribute [local go_sem] max2_int min2_int max_two min_two max_three min_three max_four min_four
set_option linter.unusedVariables false
set_option linter.unusedSimpArgs false
open Go.Proofs.Ytckcgfpbmojmoaa.Wk Go.Proofs.Ytckcgfpbmojmoaa.Pl
namespace Miss
theorem eqb_iff (a b : E) : ((a.f0 == b.f0) && ((a.f1 == b.f1) && ((a.f2 == b.f2) && ((a.f3 == b.f3) && (a.f4 == b.f4))))) = true ↔ a = b := by
  cases a; cases b
  simp
theorem cnt_ne {a x : E} (h : ¬ a = x) : List.count x [a] = 0 := by
  rw [List.count_singleton, if_neg]
  simpa using h
theorem spec_tells (l0 l1 : List E) (h0 : l0.length ≤ 1048576) (h1 : l1.length ≤ 1048576) : Ev (fun k => spec_l06Missing.f k l0 l1) (go l0 l1 []) := by
  unfold spec_l06Missing.f
  have key : ∀ d (i : Nat) (bag out : List E), i + d = l0.length → out.length ≤ i → (∀ x, bag.count x = l1.count x - (l0.take i).count x) → Ev (fun k => spec_l06Missing.l0 k l0 l1 out i) (go (l0.drop i) bag out) := by
    intro d
    induction d with
    | zero =>
      intro i bag out hi _ _
      obtain rfl : i = l0.length := by omega
      refine Ev.step (fun k => by simp only [spec_l06Missing.l0]; rw [if_neg (by omega)]) ?_
      rw [List.drop_length, go]
      exact Ev.now _
    | succ d ih =>
      intro i bag out hi ho hbag
      have hlt : i < l0.length := by omega
      have h3 : (i : Int) < (l0.length : Int) := by omega
      obtain ⟨x, hx⟩ : ∃ x, x = l0.getD i z40 := ⟨_, rfl⟩
      have hr : rd_T40 l0 (i : Int) = x := hx.symm
      have htk : l0.take (i + 1) = l0.take i ++ [x] := by rw [List.take_succ_eq_append_getElem hlt, hx, getD_lt hlt]
      refine Ev.step (f := fun k => spec_l06Missing.l1 k l0 l1 out i 0 0 0) (fun k => by simp only [spec_l06Missing.l0]; rw [if_pos h3]) ?_
      rw [List.drop_eq_getElem_cons hlt, ← getD_lt hlt z40, ← hx, go]
      have hcnt : (l0.take (i + 1)).count x = (l0.take i).count x + 1 := by rw [htk]; simp [List.count_append]
      have hcb : ∀ j, (l0.take j).count x ≤ 1048576 := fun j => Nat.le_trans List.count_le_length (Nat.le_trans (List.length_take_le' _ _) h0)
      have hcb1 : ∀ j, (l1.take j).count x ≤ 1048576 := fun j => Nat.le_trans List.count_le_length (Nat.le_trans (List.length_take_le' _ _) h1)
      have tail : Ev (fun k => spec_l06Missing.l2 k l0 l1 out i (((l0.take (i + 1)).count x : Nat) : Int) 0 0) (if 0 < bag.count x then go (l0.drop (i + 1)) (bag.erase x) out else go (l0.drop (i + 1)) bag (out ++ [x])) := by
        have h2 := ev_steps (F := fun k j (s : Int) => spec_l06Missing.l2 k l0 l1 out i (((l0.take (i + 1)).count x : Nat) : Int) s j) 0 l1.length (Nat.zero_le _) (fun j => (((l1.take j).count x : Nat) : Int)) (if 0 < bag.count x then go (l0.drop (i + 1)) (bag.erase x) out else go (l0.drop (i + 1)) bag (out ++ [x])) (fun j _ hj h => by
          have hrj : rd_T40 l1 (j : Int) = l1.getD j z40 := rfl
          have htj : l1.take (j + 1) = l1.take j ++ [l1.getD j z40] := by rw [List.take_succ_eq_append_getElem hj, getD_lt hj]
          have hbj := hcb1 j
          by_cases e : l1.getD j z40 = x
          · refine Ev.step (fun k => ?_) h
            simp only [spec_l06Missing.l2]
            rw [if_pos (by omega), if_pos (by omega), if_pos (by omega), if_pos h3, hrj, hr, if_pos ((eqb_iff _ _).2 e), w_i hj (by omega), w_id (by omega) (by omega), htj, e]
            simp [List.count_append]
          · refine Ev.step (fun k => ?_) h
            simp only [spec_l06Missing.l2]
            rw [if_pos (by omega), if_pos (by omega), if_pos (by omega), if_pos h3, hrj, hr, if_neg (fun h => e ((eqb_iff _ _).1 h)), w_i hj (by omega), show List.count x (List.take (j + 1) l1) = List.count x (List.take j l1) by rw [htj, List.count_append, cnt_ne e, Nat.add_zero]]) (by
          have hb := hbag x
          rw [List.take_length]
          by_cases hp : 0 < bag.count x
          · rw [if_pos hp]
            refine Ev.step (f := fun k => spec_l06Missing.l0 k l0 l1 out ((i + 1 : Nat) : Int)) (fun k => by
              simp only [spec_l06Missing.l2]
              rw [if_neg (by omega), if_neg (by omega), w_i hlt (by omega)]) ?_
            refine ih (i + 1) (bag.erase x) out (by omega) (by omega) (fun y => ?_)
            by_cases e : y = x
            · subst e
              rw [List.count_erase_self, hcnt, hb]
              omega
            · rw [List.count_erase_of_ne e, htk, List.count_append, hbag y]
              simp [List.count_singleton, Ne.symm e]
          · rw [if_neg hp]
            refine Ev.step (f := fun k => spec_l06Missing.l0 k l0 l1 (out ++ [x]) ((i + 1 : Nat) : Int)) (fun k => by
              simp only [spec_l06Missing.l2]
              rw [if_neg (by omega), if_pos (by omega), if_pos (by omega), if_pos h3, if_pos (by omega), w_i hlt (by omega), hr]) ?_
            refine ih (i + 1) bag (out ++ [x]) (by omega) (by simp; omega) (fun y => ?_)
            by_cases e : y = x
            · subst e
              rw [hcnt]
              omega
            · rw [htk, List.count_append, hbag y]
              simp [List.count_singleton, Ne.symm e])
        simpa using h2
      have h1' := ev_steps (F := fun k j (s : Int) => spec_l06Missing.l1 k l0 l1 out i s 0 j) 0 (i + 1) (Nat.zero_le _) (fun j => (((l0.take j).count x : Nat) : Int)) (if 0 < bag.count x then go (l0.drop (i + 1)) (bag.erase x) out else go (l0.drop (i + 1)) bag (out ++ [x])) (fun j _ hj h => by
        have hjl : j < l0.length := by omega
        have hrj : rd_T40 l0 (j : Int) = l0.getD j z40 := rfl
        have htj : l0.take (j + 1) = l0.take j ++ [l0.getD j z40] := by rw [List.take_succ_eq_append_getElem hjl, getD_lt hjl]
        have hbj := hcb j
        by_cases e : l0.getD j z40 = x
        · refine Ev.step (fun k => ?_) h
          simp only [spec_l06Missing.l1]
          rw [if_pos (by omega), if_pos (by omega), if_pos (by omega), if_pos (by omega), if_pos h3, hrj, hr, if_pos ((eqb_iff _ _).2 e), w_i hjl (by omega), w_id (by omega) (by omega), htj, e]
          simp [List.count_append]
        · refine Ev.step (fun k => ?_) h
          simp only [spec_l06Missing.l1]
          rw [if_pos (by omega), if_pos (by omega), if_pos (by omega), if_pos (by omega), if_pos h3, hrj, hr, if_neg (fun h => e ((eqb_iff _ _).1 h)), w_i hjl (by omega), show List.count x (List.take (j + 1) l0) = List.count x (List.take j l0) by rw [htj, List.count_append, cnt_ne e, Nat.add_zero]]) (Ev.step (fun k => by simp only [spec_l06Missing.l1]; rw [if_neg (by omega)]) tail)
      simpa using h1'
  exact key l0.length 0 l1 [] (by omega) (Nat.zero_le _) (fun x => by simp)
end Miss
end Go.Proofs.Ytckcgfpbmojmoaa.G
