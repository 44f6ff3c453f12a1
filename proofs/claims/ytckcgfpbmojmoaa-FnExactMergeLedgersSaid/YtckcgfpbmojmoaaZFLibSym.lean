import Derived.Test.YtckcgfpbmojmoaaZFLibSort
namespace Go.Proofs.Ytckcgfpbmojmoaa.G
open Go.RowKit Go.Proofs.YtckcgfpbmojmoaaW.PrintWords Go.Proofs.YtckcgfpbmojmoaaW.PrintLast Go.Proofs.YtckcgfpbmojmoaaW.PrintMore
attribute [local go_sem] max2_int min2_int max_two min_two max_three min_three max_four min_four
set_option linter.unusedVariables false
set_option linter.unusedSimpArgs false
open Go.Proofs.Ytckcgfpbmojmoaa.Wk Go.Proofs.Ytckcgfpbmojmoaa.Pl
namespace SortL
theorem rd_far (Q : List E) (u : E) (R : List E) (v : E) (T : List E) (j : Int) (hj : j = (Q.length : Int) + 1 + R.length) : rd_T40 (Q ++ u :: (R ++ v :: T)) j = v := by
  have : Q ++ u :: (R ++ v :: T) = (Q ++ u :: R) ++ v :: T := by simp
  rw [this]
  exact rd_at _ _ _ _ (by simp; omega)
theorem swapF (Q : List E) (u : E) (R : List E) (v : E) (T : List E) (i j : Nat) (hi : i = Q.length) (hj : j = Q.length + 1 + R.length) : ((Q ++ u :: (R ++ v :: T)).set i v).set j u = Q ++ v :: (R ++ u :: T) := by
  rw [set_at Q u v _ i hi]
  have : Q ++ v :: (R ++ v :: T) = (Q ++ v :: R) ++ v :: T := by simp
  rw [this, set_at (Q ++ v :: R) v u T j (by simp; omega)]
  simp
theorem swp_out (P M S : List E) : ∀ (n : Nat) (U V U0 V0 : List E), U.length = n → V.length = n → U0.length = V0.length → P.length + U0.length + U.length + M.length + V0.length + V.length + S.length < 900000 →
    Ev (fun k => impl_Entry_81.l0 k (P ++ (V0 ++ (U ++ (M ++ (U0 ++ (V ++ S)))))) (P.length : Int) ((P.length + U0.length + n + M.length : Nat) : Int) ((U0.length + n : Nat) : Int) (U0.length : Int)) (P ++ (V0 ++ (V ++ (M ++ (U0 ++ (U ++ S)))))) := by
  intro n
  induction n with
  | zero =>
    intro U V U0 V0 hU hV _ _
    obtain rfl := List.length_eq_zero_iff.1 hU
    obtain rfl := List.length_eq_zero_iff.1 hV
    refine Ev.step (f := fun _ => some _) (fun k => ?_) (Ev.now _)
    simp only [impl_Entry_81.l0]
    rw [if_neg (by omega)]
  | succ n ih =>
    intro U V U0 V0 hU hV h0 hl
    obtain ⟨u, U', rfl⟩ : ∃ e L', U = e :: L' := by cases U with | nil => simp at hU | cons e L' => exact ⟨e, L', rfl⟩
    obtain ⟨v, V', rfl⟩ : ∃ e L', V = e :: L' := by cases V with | nil => simp at hV | cons e L' => exact ⟨e, L', rfl⟩
    simp only [List.length_cons] at hU hV hl
    have hx : P ++ (V0 ++ (u :: U' ++ (M ++ (U0 ++ (v :: V' ++ S))))) = (P ++ V0) ++ u :: ((U' ++ (M ++ U0)) ++ v :: (V' ++ S)) := by simp
    have hy : (P ++ V0) ++ v :: ((U' ++ (M ++ U0)) ++ u :: (V' ++ S)) = P ++ ((V0 ++ [v]) ++ (U' ++ (M ++ ((U0 ++ [u]) ++ (V' ++ S))))) := by simp
    have hz : P ++ ((V0 ++ [v]) ++ (V' ++ (M ++ ((U0 ++ [u]) ++ (U' ++ S))))) = P ++ (V0 ++ (v :: V' ++ (M ++ (U0 ++ (u :: U' ++ S))))) := by simp
    have hlen : (((P ++ V0) ++ u :: ((U' ++ (M ++ U0)) ++ v :: (V' ++ S))).length : Int) = P.length + V0.length + U'.length + M.length + U0.length + V'.length + S.length + 2 := by simp; omega
    have i1 : wrap64 (((P.length + U0.length + (n + 1) + M.length : Nat) : Int) + (U0.length : Int)) = (P.length : Int) + V0.length + 1 + (U' ++ (M ++ U0)).length := by simp; unfold wrap64; omega
    have i2 : wrap64 ((P.length : Int) + (U0.length : Int)) = ((P ++ V0).length : Int) := by simp only [List.length_append]; unfold wrap64; omega
    have i3 : wrap64 ((U0.length : Int) + 1) = ((U0 ++ [u]).length : Int) := by simp only [List.length_append, List.length_singleton]; unfold wrap64; omega
    have h1 := ih U' V' (U0 ++ [u]) (V0 ++ [v]) (by omega) (by omega) (by simp; omega) (by simp; omega)
    rw [hz] at h1
    refine Ev.step (fun k => ?_) h1
    simp only [impl_Entry_81.l0]
    rw [hx, i1, i2, i3]
    rw [if_pos (by omega), if_pos (by omega), if_pos (by simp only [List.length_append] at hlen ⊢; omega), if_pos (by omega), if_pos (by simp only [List.length_append] at hlen ⊢; omega)]
    rw [rd_far (P ++ V0) u (U' ++ (M ++ U0)) v (V' ++ S) _ (by simp only [List.length_append]; omega), rd_at (P ++ V0) u _ _ rfl]
    have hs := swapF (P ++ V0) u (U' ++ (M ++ U0)) v (V' ++ S) ((P ++ V0).length : Int).toNat ((P.length : Int) + V0.length + 1 + (U' ++ (M ++ U0)).length).toNat (Int.toNat_natCast _) (by simp only [List.length_append]; omega)
    have e1 : (⟨v.f0, v.f1, v.f2, v.f3, v.f4⟩ : E) = v := rfl
    have e2 : (⟨u.f0, u.f1, u.f2, u.f3, u.f4⟩ : E) = u := rfl
    rw [e1, e2, hs, hy]
    congr 1
    · simp; omega
    · simp; omega
theorem swp_t (P U M V S : List E) (h : U.length = V.length) (hl : P.length + U.length + M.length + V.length + S.length < 800000) :
    Ev (fun k => impl_Entry_81.f k (P ++ (U ++ (M ++ (V ++ S)))) (P.length : Int) ((P.length + U.length + M.length : Nat) : Int) (U.length : Int)) (P ++ (V ++ (M ++ (U ++ S)))) := by
  have h1 := swp_out P M S U.length U V [] [] rfl h.symm rfl (by simp; omega)
  simp only [impl_Entry_81.f]
  simpa using h1
theorem rot_out : ∀ (n : Nat) (P U V S : List E), U.length + V.length ≤ n → 0 < U.length → 0 < V.length → P.length + U.length + V.length + S.length < 700000 →
    Ev (fun k => impl_Entry_78.l0 k (P ++ (U ++ (V ++ S))) ((P.length + U.length : Nat) : Int) (U.length : Int) (V.length : Int)) (P ++ (V ++ (U ++ S))) := by
  intro n
  induction n with
  | zero => intro P U V S h hU hV _; omega
  | succ n ih =>
    intro P U V S hn hU hV hl
    have hw : wrap64 (((P.length + U.length : Nat) : Int) - (U.length : Int)) = (P.length : Int) := by unfold wrap64; omega
    by_cases he : U.length = V.length
    · have h1 := swp_t P U [] V S he (by simp; omega)
      refine Ev.step (f := fun k => (impl_Entry_81.f k (P ++ (U ++ (V ++ S))) (P.length : Int) ((P.length + U.length : Nat) : Int) (U.length : Int)).bind fun t => some t) (fun k => ?_) (Ev.bind (by simpa using h1) (Ev.now _))
      simp only [impl_Entry_78.l0, hw]
      rw [if_pos (by omega)]
    · by_cases hg : V.length < U.length
      · obtain ⟨U1, U2, rfl, hu1⟩ : ∃ U1 U2, U = U1 ++ U2 ∧ U1.length = V.length := ⟨U.take V.length, U.drop V.length, (List.take_append_drop _ _).symm, by simp; omega⟩
        simp only [List.length_append] at hn hU hl hg he
        have h1 := swp_t P U1 U2 V S hu1 (by omega)
        have h2 := ih (P ++ V) U2 U1 S (by omega) (by omega) (by omega) (by simp; omega)
        have hw2 : wrap64 (((U1 ++ U2).length : Int) - (V.length : Int)) = (U2.length : Int) := by simp; unfold wrap64; omega
        refine Ev.step (f := fun k => (impl_Entry_81.f k (P ++ (U1 ++ (U2 ++ (V ++ S)))) (P.length : Int) ((P.length + U1.length + U2.length : Nat) : Int) (U1.length : Int)).bind fun t => impl_Entry_78.l0 k t ((P.length + (U1 ++ U2).length : Nat) : Int) (U2.length : Int) (V.length : Int)) (fun k => ?_) (Ev.bind h1 ?_)
        · simp only [impl_Entry_78.l0]
          rw [if_neg (by simp; omega), if_pos (by simp; omega), hw, hw2]
          simp only [List.append_assoc, List.length_append, hu1, Nat.add_assoc]
        · have hx : (P ++ V) ++ (U1 ++ (U2 ++ S)) = P ++ (V ++ (U1 ++ U2 ++ S)) := by simp
          rw [hx] at h2
          have hx2 : (P ++ V) ++ (U2 ++ (U1 ++ S)) = P ++ (V ++ (U2 ++ (U1 ++ S))) := by simp
          rw [hx2] at h2
          have hm : (((P ++ V).length + U2.length : Nat) : Int) = ((P.length + (U1 ++ U2).length : Nat) : Int) := by simp; omega
          rw [hm, hu1] at h2
          exact h2
      · obtain ⟨V1, V2, rfl, hv2⟩ : ∃ V1 V2, V = V1 ++ V2 ∧ V2.length = U.length := ⟨V.take (V.length - U.length), V.drop (V.length - U.length), (List.take_append_drop _ _).symm, by simp; omega⟩
        simp only [List.length_append] at hn hV hl hg he
        have h1 := swp_t P U V1 V2 S hv2.symm (by omega)
        have h2 := ih P V2 V1 (U ++ S) (by omega) (by omega) (by omega) (by simp; omega)
        have hw2 : wrap64 (((V1 ++ V2).length : Int) - (U.length : Int)) = (V1.length : Int) := by simp; unfold wrap64; omega
        have hw3 : wrap64 (wrap64 (((P.length + U.length : Nat) : Int) + ((V1 ++ V2).length : Int)) - (U.length : Int)) = ((P.length + U.length + V1.length : Nat) : Int) := by simp; unfold wrap64; omega
        refine Ev.step (f := fun k => (impl_Entry_81.f k (P ++ (U ++ (V1 ++ (V2 ++ S)))) (P.length : Int) ((P.length + U.length + V1.length : Nat) : Int) (U.length : Int)).bind fun t => impl_Entry_78.l0 k t ((P.length + U.length : Nat) : Int) (U.length : Int) (V1.length : Int)) (fun k => ?_) (Ev.bind h1 ?_)
        · simp only [impl_Entry_78.l0]
          rw [if_neg (by simp; omega), if_neg (by simp; omega), hw, hw2, hw3]
          simp only [List.append_assoc]
        · have hx2 : P ++ (V1 ++ (V2 ++ (U ++ S))) = P ++ (V1 ++ V2 ++ (U ++ S)) := by simp
          rw [hx2, hv2] at h2
          exact h2
theorem rot_t (P U V S : List E) (hU : 0 < U.length) (hV : 0 < V.length) (hl : P.length + U.length + V.length + S.length < 700000) :
    Ev (fun k => impl_Entry_78.f k (P ++ (U ++ (V ++ S))) (P.length : Int) ((P.length + U.length : Nat) : Int) ((P.length + U.length + V.length : Nat) : Int)) (P ++ (V ++ (U ++ S))) := by
  have h1 := rot_out (U.length + V.length) P U V S (Nat.le_refl _) hU hV hl
  have e1 : wrap64 (((P.length + U.length : Nat) : Int) - (P.length : Int)) = (U.length : Int) := by unfold wrap64; omega
  have e2 : wrap64 (((P.length + U.length + V.length : Nat) : Int) - ((P.length + U.length : Nat) : Int)) = (V.length : Int) := by unfold wrap64; omega
  simp only [impl_Entry_78.f, e1, e2]
  exact h1
end SortL
end Go.Proofs.Ytckcgfpbmojmoaa.G
