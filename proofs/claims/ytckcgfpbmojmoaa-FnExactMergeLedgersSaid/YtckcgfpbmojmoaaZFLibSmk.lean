import Derived.Test.YtckcgfpbmojmoaaZFLibSmj
namespace Go.Proofs.Ytckcgfpbmojmoaa.G
open Go.RowKit Go.Proofs.YtckcgfpbmojmoaaW.PrintWords Go.Proofs.YtckcgfpbmojmoaaW.PrintLast Go.Proofs.YtckcgfpbmojmoaaW.PrintMore
attribute [local go_sem] max2_int min2_int max_two min_two max_three min_three max_four min_four
set_option linter.unusedVariables false
set_option linter.unusedSimpArgs false
open Go.Proofs.Ytckcgfpbmojmoaa.Wk Go.Proofs.Ytckcgfpbmojmoaa.Pl
namespace SortL
inductive Blk (bs : Nat) : List E → Prop
  | last {l : List E} : l.length ≤ bs → So l → Blk bs l
  | cons {l r : List E} : l.length = bs → So l → Blk bs r → Blk bs (l ++ r)
theorem Blk.so {bs : Nat} {T : List E} (h : Blk bs T) (hl : T.length ≤ bs) : So T := by
  cases h with
  | last _ h => exact h
  | cons h1 h2 h3 =>
    rename_i l r
    simp only [List.length_append] at hl
    obtain rfl := List.length_eq_zero_iff.1 (show r.length = 0 by omega)
    simpa using h2
theorem Blk.split {bs : Nat} {T : List E} (h : Blk bs T) (hl : bs < T.length) : ∃ l r, T = l ++ r ∧ l.length = bs ∧ So l ∧ Blk bs r := by
  cases h with
  | last h1 _ => omega
  | cons h1 h2 h3 => exact ⟨_, _, rfl, h1, h2, h3⟩
theorem Blk.get {bs : Nat} {T : List E} (h : Blk bs T) (hl : bs ≤ T.length) : ∃ l r, T = l ++ r ∧ l.length = bs ∧ So l ∧ Blk bs r := by
  by_cases he : T.length = bs
  · exact ⟨T, [], by simp, he, h.so (by omega), .last (by simp) List.Pairwise.nil⟩
  · exact h.split (by omega)
theorem st_first (n : Nat) (hn : n < 100000) : ∀ (d : Nat) (P T : List E), T.length ≤ d → P.length + T.length = n → Sm T →
    ∃ T', Blk 20 T' ∧ Sd T' T ∧ ∀ r, Ev (fun k => impl_Entry_60.l1 k (P ++ T') (n : Int) 20) r → Ev (fun k => impl_Entry_60.l0 k (P ++ T) (n : Int) 20 (P.length : Int) ((P.length + 20 : Nat) : Int)) r := by
  intro d
  induction d with
  | zero =>
    intro P T hd hp hS
    obtain rfl := List.length_eq_zero_iff.1 (show T.length = 0 by omega)
    obtain ⟨M, a1, a2, a3⟩ := ins_t P [] [] hS (by simp; simp at hp; omega)
    have hM : M = [] := List.length_eq_zero_iff.1 a2.1
    subst hM; refine ⟨[], .last (by simp) List.Pairwise.nil, Sd.refl _, fun r h => ?_⟩
    have e1 : ((P.length + ([] : List E).length : Nat) : Int) = (n : Int) := by omega
    rw [e1] at a3
    refine Ev.step (f := fun k => (impl_Entry_74.f k (P ++ ([] ++ [])) (P.length : Int) (n : Int)).bind fun t => impl_Entry_60.l1 k t (n : Int) 20) (fun k => ?_) (Ev.bind a3 (by simpa using h))
    simp only [impl_Entry_60.l0]
    rw [if_neg (by simp at hp; omega)]
    simp
  | succ d ih =>
    intro P T hd hp hS
    by_cases hc : 20 ≤ T.length
    · obtain ⟨T1, T2, rfl, ht1⟩ : ∃ T1 T2, T = T1 ++ T2 ∧ T1.length = 20 := ⟨T.take 20, T.drop 20, (List.take_append_drop _ _).symm, by simp; omega⟩
      simp only [List.length_append] at hd hp hc
      obtain ⟨M, a1, a2, a3⟩ := ins_t P T1 T2 hS.left (by omega)
      have hM : M.length = 20 := by rw [a2.1, ht1]
      obtain ⟨T', b1, b2, b3⟩ := ih (P ++ M) T2 (by omega) (by simp; omega) hS.right
      refine ⟨M ++ T', .cons hM a1 b1, a2.app b2, fun r h => ?_⟩
      have h5 := b3 r (by simpa using h)
      have e1 : ((P.length + T1.length : Nat) : Int) = ((P.length + 20 : Nat) : Int) := by omega
      have e2 : (((P ++ M).length : Nat) : Int) = ((P.length + 20 : Nat) : Int) := by simp; omega
      have e3 : (((P ++ M).length + 20 : Nat) : Int) = wrap64 (((P.length + 20 : Nat) : Int) + 20) := by simp; unfold wrap64; omega
      rw [e1] at a3
      rw [e2, e3] at h5
      refine Ev.step (f := fun k => (impl_Entry_74.f k (P ++ (T1 ++ T2)) (P.length : Int) ((P.length + 20 : Nat) : Int)).bind fun t => impl_Entry_60.l0 k t (n : Int) 20 ((P.length + 20 : Nat) : Int) (wrap64 (((P.length + 20 : Nat) : Int) + 20))) (fun k => ?_) (Ev.bind a3 (by simpa using h5))
      simp only [impl_Entry_60.l0]
      rw [if_pos (by omega)]
    · obtain ⟨M, a1, a2, a3⟩ := ins_t P T [] hS (by simp; omega)
      refine ⟨M, .last (by rw [a2.1]; omega) a1, a2, fun r h => ?_⟩
      have e1 : ((P.length + T.length : Nat) : Int) = (n : Int) := by omega
      rw [e1] at a3
      refine Ev.step (f := fun k => (impl_Entry_74.f k (P ++ (T ++ [])) (P.length : Int) (n : Int)).bind fun t => impl_Entry_60.l1 k t (n : Int) 20) (fun k => ?_) (Ev.bind a3 (by simpa using h))
      simp only [impl_Entry_60.l0]
      rw [if_neg (by omega)]
      simp
theorem st_pass (n bs : Nat) (hn : n < 100000) (hbs : 0 < bs) (hb : bs < n) : ∀ (d : Nat) (P T : List E), T.length ≤ d → P.length + T.length = n → Blk bs T → Sm T →
    ∃ T', Blk (2 * bs) T' ∧ Sd T' T ∧ ∀ r, Ev (fun k => impl_Entry_60.l1 k (P ++ T') (n : Int) ((bs * 2 : Nat) : Int)) r → Ev (fun k => impl_Entry_60.l2 k (P ++ T) (n : Int) (bs : Int) (P.length : Int) ((P.length + 2 * bs : Nat) : Int)) r := by
  intro d
  induction d with
  | zero =>
    intro P T hd hp hB hS
    obtain rfl := List.length_eq_zero_iff.1 (show T.length = 0 by omega)
    refine ⟨[], .last (by simp) List.Pairwise.nil, Sd.refl _, fun r h => ?_⟩
    have w1 : wrap64 ((P.length : Int) + (bs : Int)) = ((P.length + bs : Nat) : Int) := by simp at hp; unfold wrap64; omega
    have w2 : wrap64 ((bs : Int) * 2) = ((bs * 2 : Nat) : Int) := by unfold wrap64; omega
    refine Ev.step (fun k => ?_) h
    simp only [impl_Entry_60.l2, w1, w2]
    rw [if_neg (by simp at hp; omega), if_neg (by simp at hp; omega)]
  | succ d ih =>
    intro P T hd hp hB hS
    have w1 : wrap64 ((P.length : Int) + (bs : Int)) = ((P.length + bs : Nat) : Int) := by unfold wrap64; omega
    have w2 : wrap64 ((bs : Int) * 2) = ((bs * 2 : Nat) : Int) := by unfold wrap64; omega
    by_cases hc : 2 * bs ≤ T.length
    · obtain ⟨B1, T1, rfl, g1, g2, g3⟩ := hB.get (by omega)
      simp only [List.length_append] at hd hp hc
      obtain ⟨B2, T2, rfl, g4, g5, g6⟩ := g3.get (by omega)
      simp only [List.length_append] at hd hp hc
      obtain ⟨M, a1, a2, a3⟩ := sym_all _ P B1 B2 T2 (Nat.le_refl _) g2 g5 (by omega) (by omega) (Sm.app hS.left hS.right.left) (by omega)
      have hM : M.length = 2 * bs := by rw [a2.1, List.length_append]; omega
      obtain ⟨T', b1, b2, b3⟩ := ih (P ++ M) T2 (by omega) (by simp; omega) g6 hS.right.right
      refine ⟨M ++ T', .cons hM a1 b1, by have := a2.app b2; simpa using this, fun r h => ?_⟩
      have h5 := b3 r (by simpa using h)
      have e1 : ((P.length + B1.length : Nat) : Int) = ((P.length + bs : Nat) : Int) := by omega
      have e2 : ((P.length + B1.length + B2.length : Nat) : Int) = ((P.length + 2 * bs : Nat) : Int) := by omega
      have e3 : (((P ++ M).length : Nat) : Int) = ((P.length + 2 * bs : Nat) : Int) := by simp; omega
      have w3 : wrap64 (2 * (bs : Int)) = ((2 * bs : Nat) : Int) := by unfold wrap64; omega
      have e4 : (((P ++ M).length + 2 * bs : Nat) : Int) = wrap64 (((P.length + 2 * bs : Nat) : Int) + wrap64 (2 * (bs : Int))) := by rw [w3]; simp only [List.length_append]; unfold wrap64; omega
      rw [e1, e2] at a3
      rw [e3, e4] at h5
      refine Ev.step (f := fun k => (impl_Entry_75.f k (P ++ (B1 ++ (B2 ++ T2))) (P.length : Int) ((P.length + bs : Nat) : Int) ((P.length + 2 * bs : Nat) : Int)).bind fun t => impl_Entry_60.l2 k t (n : Int) (bs : Int) ((P.length + 2 * bs : Nat) : Int) (wrap64 (((P.length + 2 * bs : Nat) : Int) + wrap64 (2 * (bs : Int))))) (fun k => ?_) (Ev.bind a3 (by simpa using h5))
      simp only [impl_Entry_60.l2, w1]
      rw [if_pos (by omega)]
    · by_cases hd2 : bs < T.length
      · obtain ⟨B1, T1, rfl, g1, g2, g3⟩ := hB.get (by omega)
        simp only [List.length_append] at hd hp hc hd2
        have g4 := g3.so (by omega)
        obtain ⟨M, a1, a2, a3⟩ := sym_all _ P B1 T1 [] (Nat.le_refl _) g2 g4 (by omega) (by omega) hS (by simp; omega)
        refine ⟨M, .last (by rw [a2.1, List.length_append]; omega) a1, a2, fun r h => ?_⟩
        have e1 : ((P.length + B1.length : Nat) : Int) = ((P.length + bs : Nat) : Int) := by omega
        have e2 : ((P.length + B1.length + T1.length : Nat) : Int) = (n : Int) := by omega
        rw [e1, e2] at a3
        refine Ev.step (f := fun k => (impl_Entry_75.f k (P ++ (B1 ++ (T1 ++ []))) (P.length : Int) ((P.length + bs : Nat) : Int) (n : Int)).bind fun t => impl_Entry_60.l1 k t (n : Int) ((bs * 2 : Nat) : Int)) (fun k => ?_) (Ev.bind a3 (by simpa using h))
        simp only [impl_Entry_60.l2, w1, w2]
        rw [if_neg (by omega), if_pos (by omega)]
        simp
      · refine ⟨T, .last (by omega) (hB.so (by omega)), Sd.refl _, fun r h => ?_⟩
        refine Ev.step (fun k => ?_) h
        simp only [impl_Entry_60.l2, w1, w2]
        rw [if_neg (by omega), if_neg (by omega)]
theorem st_loop (n : Nat) (hn : n < 100000) : ∀ (d bs : Nat) (T : List E), n - bs ≤ d → 0 < bs → T.length = n → Blk bs T → Sm T → ∃ T', So T' ∧ Sd T' T ∧ Ev (fun k => impl_Entry_60.l1 k T (n : Int) (bs : Int)) T' := by
  intro d
  induction d with
  | zero =>
    intro bs T hd hbs hT hB hS
    refine ⟨T, hB.so (by omega), Sd.refl _, Ev.step (f := fun _ => some T) (fun k => ?_) (Ev.now _)⟩
    simp only [impl_Entry_60.l1]
    rw [if_neg (by omega)]
  | succ d ih =>
    intro bs T hd hbs hT hB hS
    by_cases hc : bs < n
    · obtain ⟨T1, a1, a2, a3⟩ := st_pass n bs hn hbs hc T.length [] T (Nat.le_refl _) (by simpa using hT) hB hS
      obtain ⟨T', b1, b2, b3⟩ := ih (2 * bs) T1 (by omega) (by omega) (by rw [a2.1, hT]) a1 (a2.small hS)
      refine ⟨T', b1, b2.trans a2, ?_⟩
      have h5 := a3 T' (by rw [Nat.mul_comm]; simpa using b3)
      have w1 : wrap64 (2 * (bs : Int)) = ((2 * bs : Nat) : Int) := by unfold wrap64; omega
      refine Ev.step (f := fun k => impl_Entry_60.l2 k T (n : Int) (bs : Int) 0 ((2 * bs : Nat) : Int)) (fun k => ?_) (by simpa using h5)
      simp only [impl_Entry_60.l1, w1]
      rw [if_pos (by omega)]
    · refine ⟨T, hB.so (by omega), Sd.refl _, Ev.step (f := fun _ => some T) (fun k => ?_) (Ev.now _)⟩
      simp only [impl_Entry_60.l1]
      rw [if_neg (by omega)]
theorem sort_t (x : List E) (hl : x.length < 100000) (hS : Sm x) : ∃ y, So y ∧ Sd y x ∧ Ev (fun k => impl_Entry_35.f k x) y := by
  obtain ⟨T1, a1, a2, a3⟩ := st_first x.length hl x.length [] x (Nat.le_refl _) (by simp) hS
  obtain ⟨y, b1, b2, b3⟩ := st_loop x.length hl x.length 20 T1 (by omega) (by omega) a2.1 a1 (a2.small hS)
  refine ⟨y, b1, b2.trans a2, ?_⟩
  have h5 := a3 y (by simpa using b3)
  simp only [impl_Entry_35.f, impl_Entry_60.f]
  exact Ev.bind (by simpa using h5) (Ev.now _)
theorem one_t : ∀ (M N : List E), So M → So N → Sd M N → M = N := by
  intro M
  induction M with
  | nil => intro N _ _ h; exact (List.length_eq_zero_iff.1 h.1.symm).symm
  | cons x M ih =>
    intro N hM hN h
    cases N with
    | nil => simpa using h.1
    | cons y N =>
      obtain ⟨p1, p2⟩ := List.pairwise_cons.1 hM
      obtain ⟨q1, q2⟩ := List.pairwise_cons.1 hN
      have hx : x ∈ y :: N := h.mem List.mem_cons_self
      have hy : y ∈ x :: M := h.symm.mem List.mem_cons_self
      have hd : x.f0 = y.f0 := by
        have h1 : y.f0 ≤ x.f0 := by
          rcases List.mem_cons.1 hx with rfl | hx
          · exact Int.le_refl _
          · exact q1 x hx
        have h2 : x.f0 ≤ y.f0 := by
          rcases List.mem_cons.1 hy with rfl | hy
          · exact Int.le_refl _
          · exact p1 y hy
        omega
      have h3 := h.2 x.f0
      rw [List.filter_cons_of_pos (by simp), List.filter_cons_of_pos (by simp [hd])] at h3
      injection h3 with h4 h5
      subst h4; congr 1
      refine ih N p2 q2 ⟨by simpa using h.1, fun d => ?_⟩
      have h6 := h.2 d
      by_cases hc : x.f0 = d
      · rw [List.filter_cons_of_pos (by simp [hc]), List.filter_cons_of_pos (by simp [hc])] at h6
        injection h6
      · rwa [List.filter_cons_of_neg (by simp [hc]), List.filter_cons_of_neg (by simp [hc])] at h6
end SortL
end Go.Proofs.Ytckcgfpbmojmoaa.G
