/- The reference's text of marks is the program's. -/
import Derived.Test.YthkifkfnlmjafaaDoorFLibTxt
import Derived.Test.YthkifkfnlmjafaaDoorFTxtM
import Derived.Test.YthkifkfnlmjafaaDoorG1
namespace Go.Proofs.YthkifkfnlmjafaaDoor.G
open Go.RowKit Go.Proofs.YthkifkfnlmjafaaDoorW.PrintWords Go.Proofs.YthkifkfnlmjafaaDoorW.PrintLast Go.Proofs.YthkifkfnlmjafaaDoorW.PrintMore
attribute [local go_sem] max2_int min2_int max_two min_two max_three min_three max_four min_four   -- for this text's walks alone
set_option linter.unusedVariables false
set_option linter.unusedSimpArgs false

open Go.Proofs.YthkifkfnlmjafaaDoor.Wk Go.Proofs.YthkifkfnlmjafaaDoor.Pl
namespace Txt
theorem joinL_snoc (s : UInt8) (l : List (List UInt8)) (x : List UInt8) : joinL s (l ++ [x]) = if l.length = 0 then x else joinL s l ++ ([s] ++ x) := by
  cases l with
  | nil => simp [joinL]
  | cons y r => simp [joinL]
theorem itoa_dec {x : Int} (h0 : 0 ≤ x) : Lib.itoa x = dec x.toNat := by
  unfold Lib.itoa dec
  rw [if_neg (by omega)]
theorem lineM_t {m : List (List Int)} (hm : m.length ≤ 12) {i : Nat} (hi : i < m.length) (hR : RowM (m.getD i [])) (acc : List UInt8) (ha : acc.length ≤ 100000) {r : ByteArray}
    (h : Ev (fun k => spec_l07Text.l0 k m (B (acc ++ lineM (m.getD i []))) ((i + 1 : Nat) : Int)) r) : Ev (fun k => spec_l07Text.l1 k m (B acc) i 0) r := by
  have hrow : rd_L1 m (i : Int) = m.getD i [] := rfl
  have h8 := hR.1
  have hj := fun (j : Nat) (hj : j ≤ (m.getD i []).length) => joinL_len 32 21 (((m.getD i []).take j).map Lib.itoa) fun y hy => by
    obtain ⟨z, hz, rfl⟩ := List.mem_map.1 hy
    have := hR.2 z (List.mem_of_mem_take hz)
    exact itoa_le this.1 this.2
  have hb := fun (j : Nat) (hj1 : j ≤ (m.getD i []).length) => show (acc ++ joinL 32 (((m.getD i []).take j).map Lib.itoa)).length ≤ 101000 by
    have := hj j hj1
    rw [List.length_map, List.length_take] at this
    rw [List.length_append]
    omega
  generalize hown : m.getD i [] = own at *
  have e0 : acc = acc ++ joinL 32 ((own.take 0).map Lib.itoa) := by simp [joinL]
  rw [e0]
  refine ev_steps (F := fun k j (x : ByteArray) => spec_l07Text.l1 k m x i j) 0 own.length (Nat.zero_le _) (fun j => B (acc ++ joinL 32 ((own.take j).map Lib.itoa))) r (fun j _ hj1 hh => ?_) ?_
  · refine Ev.step (fun k => spec_l07Text.l1.eq_2 _ _ _ _ k) ?_
    have hy := hR.2 (own.getD j 0) (by rw [getD_lt hj1]; exact List.getElem_mem _)
    have hrd : rd own (j : Int) = own.getD j 0 := rfl
    have hb1 := hb j (by omega)
    have hd := dec_i (x := own.getD j 0) hy.1 (by omega)
    have hdl := dec_len (n := (own.getD j 0).toNat) (by omega)
    rw [List.take_succ_eq_append_getElem hj1, List.map_append, List.map_singleton, joinL_snoc, ← getD_lt hj1 0, itoa_dec hy.1, List.length_map, List.length_take] at hh
    simp only [hrow, hrd, w_i hj1 (show own.length ≤ 4611686018427387904 by omega)]
    refine ifp (by omega) (ifp (by omega) (ifp (by omega) ?_))
    by_cases hz : j = 0
    · subst hz
      rw [if_pos (by omega)] at hh
      refine ifn (by omega) (ifp (by omega) (Ev.bind hd (ifp (by rw [B_size, B_size]; omega) ?_)))
      rw [B_append, show joinL 32 ((own.take 0).map Lib.itoa) = [] by simp [joinL], List.append_nil]
      exact hh
    · rw [if_neg (by omega)] at hh
      refine ifp (by omega) (ifp (by rw [B_size]; omega) (ifp (by omega) (Ev.bind hd ?_)))
      rw [show (⟨#[32]⟩ : ByteArray) = B [32] from rfl, B_append]
      refine ifp (by rw [B_size, B_size, List.length_append, List.length_singleton]; omega) ?_
      rw [B_append, List.append_assoc, List.append_assoc]
      exact hh
  · refine Ev.step (fun k => spec_l07Text.l1.eq_2 _ _ _ _ k) ?_
    have hb1 := hb own.length (Nat.le_refl _)
    simp only [hrow, w_i hi (show m.length ≤ 4611686018427387904 by omega)]
    refine ifp (by omega) (ifp (by omega) (ifn (by omega) (ifp (by rw [B_size]; omega) ?_)))
    rw [show (⟨#[10]⟩ : ByteArray) = B [10] from rfl, B_append, List.append_assoc, List.take_length]
    exact h
theorem textM_t (m : List (List Int)) (hm : m.length ≤ 12) (hR : ∀ x ∈ m, RowM x) : Ev (fun k => spec_l07Text.f k m) (B (textM m)) := by
  unfold spec_l07Text.f
  have hrow : ∀ i : Nat, i < m.length → RowM (m.getD i []) := fun i hi => hR _ (by rw [getD_lt hi]; exact List.getElem_mem _)
  refine ev_steps (F := fun k i (x : ByteArray) => spec_l07Text.l0 k m x i) 0 m.length (Nat.zero_le _) (fun i => B (textM (m.take i))) (B (textM m)) (fun i _ hi hh => ?_) ?_
  · refine Ev.step (fun k => spec_l07Text.l0.eq_2 _ _ _ k) ?_
    refine ifp (by omega) ?_
    refine lineM_t hm hi (hrow i hi) _ ?_ ?_
    · have := textM_len (m.take i) fun x hx => hR x (List.mem_of_mem_take hx)
      rw [List.length_take] at this
      omega
    · rw [List.take_succ_eq_append_getElem hi, textM_snoc, ← getD_lt hi []] at hh
      exact hh
  · refine Ev.step (fun k => spec_l07Text.l0.eq_2 _ _ _ k) ?_
    rw [List.take_length]
    exact ifn (by omega) (Ev.now _)
end Txt
end Go.Proofs.YthkifkfnlmjafaaDoor.G
