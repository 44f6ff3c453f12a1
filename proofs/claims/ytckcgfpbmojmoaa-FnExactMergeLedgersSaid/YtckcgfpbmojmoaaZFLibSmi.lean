import Derived.Test.YtckcgfpbmojmoaaZFLibSmh
namespace Go.Proofs.Ytckcgfpbmojmoaa.G
open Go.RowKit Go.Proofs.YtckcgfpbmojmoaaW.PrintWords Go.Proofs.YtckcgfpbmojmoaaW.PrintLast Go.Proofs.YtckcgfpbmojmoaaW.PrintMore
attribute [local go_sem] max2_int min2_int max_two min_two max_three min_three max_four min_four
set_option linter.unusedVariables false
set_option linter.unusedSimpArgs false
open Go.Proofs.Ytckcgfpbmojmoaa.Wk Go.Proofs.Ytckcgfpbmojmoaa.Pl
namespace SortL
def Merges (n : Nat) : Prop := ∀ P L R S : List E, L.length + R.length ≤ n → So L → So R → 0 < L.length → 0 < R.length → Sm (L ++ R) → P.length + L.length + R.length + S.length < 500000 →
  ∃ M, So M ∧ Sd M (L ++ R) ∧ Ev (fun k => impl_Entry_75.f k (P ++ (L ++ (R ++ S))) (P.length : Int) ((P.length + L.length : Nat) : Int) ((P.length + L.length + R.length : Nat) : Int)) (P ++ (M ++ S))
theorem part {n : Nat} (hI : Merges n) (P L R S : List E) (hn : L.length + R.length ≤ n) (hL : So L) (hR : So R) (hS : Sm (L ++ R)) (hl : P.length + L.length + R.length + S.length < 500000) :
    ∃ M, So M ∧ Sd M (L ++ R) ∧ (0 < L.length ∧ 0 < R.length → Ev (fun k => impl_Entry_75.f k (P ++ (L ++ (R ++ S))) (P.length : Int) ((P.length + L.length : Nat) : Int) ((P.length + L.length + R.length : Nat) : Int)) (P ++ (M ++ S))) ∧ (¬ (0 < L.length ∧ 0 < R.length) → M = L ++ R) := by
  by_cases h : 0 < L.length ∧ 0 < R.length
  · obtain ⟨M, h1, h2, h3⟩ := hI P L R S hn hL hR h.1 h.2 hS hl
    exact ⟨M, h1, h2, fun _ => h3, fun h' => absurd h h'⟩
  · refine ⟨L ++ R, ?_, Sd.refl _, fun h' => absurd h' h, fun _ => rfl⟩
    by_cases hl : L.length = 0
    · obtain rfl := List.length_eq_zero_iff.1 hl
      simpa using hR
    · obtain rfl := List.length_eq_zero_iff.1 (show R.length = 0 by omega)
      simpa using hL
def tail (k : Nat) (mid en b : Int) (t : List E) : Option (List E) := if mid < en then (if en < b then ((impl_Entry_75.f k t mid en b).bind fun t => some t) else some t) else some t
theorem j8_t (k : Nat) (x : List E) (a b mid s en : Int) : impl_Entry_75.j8 (k + 1) x a b mid s en true = (impl_Entry_75.f k x a s mid).bind fun t => tail k mid en b t := by
  simp only [impl_Entry_75.j8, if_true]
  rfl
theorem j8_f (k : Nat) (x : List E) (a b mid s en : Int) : impl_Entry_75.j8 (k + 1) x a b mid s en false = tail k mid en b x := by
  simp only [impl_Entry_75.j8, Bool.false_eq_true, if_false]
  rfl
theorem join_t {n : Nat} (hI : Merges n) (P A1 A2 B1 B2 S : List E) (hn1 : A1.length + B1.length ≤ n) (hn2 : A2.length + B2.length ≤ n) (sA1 : So A1) (sA2 : So A2) (sB1 : So B1) (sB2 : So B2)
    (h1 : ∀ y ∈ A1, ∀ z ∈ A2, y.f0 ≤ z.f0) (h2 : ∀ y ∈ B1, ∀ z ∈ B2, y.f0 ≤ z.f0) (h3 : ∀ y ∈ B1, ∀ z ∈ A2, y.f0 < z.f0) (h4 : ∀ y ∈ A1, ∀ z ∈ B2, y.f0 ≤ z.f0)
    (hS : Sm ((A1 ++ A2) ++ (B1 ++ B2))) (hl : P.length + A1.length + A2.length + B1.length + B2.length + S.length < 500000) (fl : Bool) (hf : fl = true ↔ 0 < A2.length ∧ 0 < B1.length) :
    ∃ M, So M ∧ Sd M ((A1 ++ A2) ++ (B1 ++ B2)) ∧ Ev (fun k => impl_Entry_75.j6 k (P ++ ((A1 ++ A2) ++ ((B1 ++ B2) ++ S))) (P.length : Int) ((P.length + A1.length + A2.length : Nat) : Int) ((P.length + A1.length + A2.length + B1.length + B2.length : Nat) : Int) ((P.length + A1.length + B1.length : Nat) : Int) ((P.length + A1.length : Nat) : Int) ((P.length + A1.length + A2.length + B1.length : Nat) : Int) fl) (P ++ (M ++ S)) := by
  have m1 : Sm (A1 ++ B1) := Sm.app hS.left.left hS.right.left
  have m2 : Sm (A2 ++ B2) := Sm.app hS.left.right hS.right.right
  obtain ⟨M1, a1, a2, a3, a4⟩ := part hI P A1 B1 (A2 ++ (B2 ++ S)) hn1 sA1 sB1 m1 (by simp; omega)
  have hM1 : M1.length = A1.length + B1.length := by rw [a2.1]; simp
  obtain ⟨M2, b1, b2, b3, b4⟩ := part hI (P ++ M1) A2 B2 S hn2 sA2 sB2 m2 (by simp; omega)
  refine ⟨M1 ++ M2, So.app a1 b1 ?_, ?_, ?_⟩
  · intro y hy z hz
    have hy := a2.mem hy
    have hz := b2.mem hz
    rcases List.mem_append.1 hy with hy | hy <;> rcases List.mem_append.1 hz with hz | hz
    · exact h1 y hy z hz
    · exact h4 y hy z hz
    · exact Int.le_of_lt (h3 y hy z hz)
    · exact h2 y hy z hz
  · refine (a2.app b2).trans ?_
    have hm : Sd (B1 ++ A2) (A2 ++ B1) := Sd.swap fun y hy z hz hyz => by
      have := h3 y hy z hz
      omega
    have := (Sd.refl A1).app (hm.app (Sd.refl B2))
    simpa using this
  ·
    have hturn : ∀ r, Ev (fun k => impl_Entry_75.j7 k (P ++ (A1 ++ (B1 ++ (A2 ++ (B2 ++ S))))) (P.length : Int) ((P.length + A1.length + A2.length + B1.length + B2.length : Nat) : Int) ((P.length + A1.length + B1.length : Nat) : Int) ((P.length + A1.length : Nat) : Int) ((P.length + A1.length + A2.length + B1.length : Nat) : Int)) r →
        Ev (fun k => impl_Entry_75.j6 k (P ++ ((A1 ++ A2) ++ ((B1 ++ B2) ++ S))) (P.length : Int) ((P.length + A1.length + A2.length : Nat) : Int) ((P.length + A1.length + A2.length + B1.length + B2.length : Nat) : Int) ((P.length + A1.length + B1.length : Nat) : Int) ((P.length + A1.length : Nat) : Int) ((P.length + A1.length + A2.length + B1.length : Nat) : Int) fl) r := by
      intro r h
      by_cases hc : fl = true
      · obtain ⟨c1, c2⟩ := hf.1 hc
        subst hc; have hr := rot_t (P ++ A1) A2 B1 (B2 ++ S) c1 c2 (by simp; omega)
        have hx : (P ++ A1) ++ (A2 ++ (B1 ++ (B2 ++ S))) = P ++ ((A1 ++ A2) ++ ((B1 ++ B2) ++ S)) := by simp
        have hy : (P ++ A1) ++ (B1 ++ (A2 ++ (B2 ++ S))) = P ++ (A1 ++ (B1 ++ (A2 ++ (B2 ++ S)))) := by simp
        rw [hx, hy, List.length_append] at hr
        exact Ev.step (f := fun k => (impl_Entry_78.f k (P ++ ((A1 ++ A2) ++ ((B1 ++ B2) ++ S))) ((P.length + A1.length : Nat) : Int) ((P.length + A1.length + A2.length : Nat) : Int) ((P.length + A1.length + A2.length + B1.length : Nat) : Int)).bind fun t => impl_Entry_75.j7 k t (P.length : Int) ((P.length + A1.length + A2.length + B1.length + B2.length : Nat) : Int) ((P.length + A1.length + B1.length : Nat) : Int) ((P.length + A1.length : Nat) : Int) ((P.length + A1.length + A2.length + B1.length : Nat) : Int)) (fun k => by simp only [impl_Entry_75.j6, if_true]) (Ev.bind hr h)
      · have hx : P ++ ((A1 ++ A2) ++ ((B1 ++ B2) ++ S)) = P ++ (A1 ++ (B1 ++ (A2 ++ (B2 ++ S)))) := by
          have hc' : ¬ (0 < A2.length ∧ 0 < B1.length) := fun h => hc (hf.2 h)
          by_cases hz : A2.length = 0
          · obtain rfl := List.length_eq_zero_iff.1 hz
            simp
          · obtain rfl := List.length_eq_zero_iff.1 (show B1.length = 0 by omega)
            simp
        refine Ev.step (fun k => ?_) h
        simp only [impl_Entry_75.j6]
        rw [if_neg hc, hx]
    refine hturn _ ?_
    have htail : Ev (fun k => tail k ((P.length + A1.length + B1.length : Nat) : Int) ((P.length + A1.length + A2.length + B1.length : Nat) : Int) ((P.length + A1.length + A2.length + B1.length + B2.length : Nat) : Int) (P ++ (M1 ++ (A2 ++ (B2 ++ S))))) (P ++ (M1 ++ M2 ++ S)) := by
      unfold tail
      by_cases hc : 0 < A2.length ∧ 0 < B2.length
      · have h5 := b3 hc
        have e1 : (((P ++ M1).length : Nat) : Int) = ((P.length + A1.length + B1.length : Nat) : Int) := by simp; omega
        have e2 : (((P ++ M1).length + A2.length : Nat) : Int) = ((P.length + A1.length + A2.length + B1.length : Nat) : Int) := by simp; omega
        have e3 : (((P ++ M1).length + A2.length + B2.length : Nat) : Int) = ((P.length + A1.length + A2.length + B1.length + B2.length : Nat) : Int) := by simp; omega
        have hx : (P ++ M1) ++ (A2 ++ (B2 ++ S)) = P ++ (M1 ++ (A2 ++ (B2 ++ S))) := by simp
        have hy : (P ++ M1) ++ (M2 ++ S) = P ++ (M1 ++ M2 ++ S) := by simp
        rw [e1, e2, e3, hx, hy] at h5
        simp only [if_pos (show ((P.length + A1.length + B1.length : Nat) : Int) < ((P.length + A1.length + A2.length + B1.length : Nat) : Int) by omega), if_pos (show ((P.length + A1.length + A2.length + B1.length : Nat) : Int) < ((P.length + A1.length + A2.length + B1.length + B2.length : Nat) : Int) by omega)]
        exact Ev.bind h5 (Ev.now _)
      · have h5 := b4 hc
        have hx : P ++ (M1 ++ (A2 ++ (B2 ++ S))) = P ++ (M1 ++ M2 ++ S) := by rw [h5]; simp
        rw [hx]
        by_cases hz : 0 < A2.length
        · simp only [if_pos (show ((P.length + A1.length + B1.length : Nat) : Int) < ((P.length + A1.length + A2.length + B1.length : Nat) : Int) by omega), if_neg (show ¬ ((P.length + A1.length + A2.length + B1.length : Nat) : Int) < ((P.length + A1.length + A2.length + B1.length + B2.length : Nat) : Int) by omega)]
          exact Ev.now _
        · simp only [if_neg (show ¬ ((P.length + A1.length + B1.length : Nat) : Int) < ((P.length + A1.length + A2.length + B1.length : Nat) : Int) by omega)]
          exact Ev.now _
    by_cases hc : 0 < A1.length ∧ 0 < B1.length
    · have h6 := a3 hc
      refine Ev.step (f := fun k => impl_Entry_75.j8 k (P ++ (A1 ++ (B1 ++ (A2 ++ (B2 ++ S))))) (P.length : Int) ((P.length + A1.length + A2.length + B1.length + B2.length : Nat) : Int) ((P.length + A1.length + B1.length : Nat) : Int) ((P.length + A1.length : Nat) : Int) ((P.length + A1.length + A2.length + B1.length : Nat) : Int) true) (fun k => ?_) ?_
      · simp only [impl_Entry_75.j7]
        rw [if_pos (by omega), decide_eq_true (by omega)]
      · exact Ev.step (fun k => j8_t k _ _ _ _ _ _) (Ev.bind h6 htail)
    · have h6 := a4 hc
      refine Ev.step (f := fun k => impl_Entry_75.j8 k (P ++ (A1 ++ (B1 ++ (A2 ++ (B2 ++ S))))) (P.length : Int) ((P.length + A1.length + A2.length + B1.length + B2.length : Nat) : Int) ((P.length + A1.length + B1.length : Nat) : Int) ((P.length + A1.length : Nat) : Int) ((P.length + A1.length + A2.length + B1.length : Nat) : Int) false) (fun k => ?_) ?_
      · simp only [impl_Entry_75.j7]
        by_cases hz : 0 < A1.length
        · rw [if_pos (by omega), decide_eq_false (by omega)]
        · rw [if_neg (by omega)]
      · have hx : P ++ (A1 ++ (B1 ++ (A2 ++ (B2 ++ S)))) = P ++ (M1 ++ (A2 ++ (B2 ++ S))) := by rw [h6]; simp
        rw [hx]
        exact Ev.step (fun k => j8_f k _ _ _ _ _ _) htail
end SortL
end Go.Proofs.Ytckcgfpbmojmoaa.G
