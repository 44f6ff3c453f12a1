import Derived.Test.YtckcgfpbmojmoaaZFLibSym
namespace Go.Proofs.Ytckcgfpbmojmoaa.G
open Go.RowKit Go.Proofs.YtckcgfpbmojmoaaW.PrintWords Go.Proofs.YtckcgfpbmojmoaaW.PrintLast Go.Proofs.YtckcgfpbmojmoaaW.PrintMore
attribute [local go_sem] max2_int min2_int max_two min_two max_three min_three max_four min_four
set_option linter.unusedVariables false
set_option linter.unusedSimpArgs false
open Go.Proofs.Ytckcgfpbmojmoaa.Wk Go.Proofs.Ytckcgfpbmojmoaa.Pl
namespace SortL
theorem half (i j : Nat) (h : i + j < 4000000) : wrap64 ((IntKind.u64.wrap (wrap64 ((i : Int) + (j : Int)))) / 2) = (((i + j) / 2 : Nat) : Int) := by
  have h1 : wrap64 ((i : Int) + (j : Int)) = ((i + j : Nat) : Int) := by unfold wrap64; omega
  rw [h1, Go.IntWalk.u64_in _ ⟨by omega, by omega⟩]
  unfold wrap64
  omega
theorem bsearch {ρ : Type} {F : Nat → Int → Int → Option ρ} (good : Nat → Prop) [DecidablePred good] (lo0 hi0 : Nat) (h0 : lo0 ≤ hi0) (hm : ∀ c c', lo0 ≤ c → c ≤ c' → c' < hi0 → good c' → good c)
    (hy : ∀ lo hi : Nat, lo0 ≤ lo → lo < hi → hi ≤ hi0 → good ((lo + hi) / 2) → ∀ k, F (k + 1) lo hi = F k (((lo + hi) / 2 + 1 : Nat) : Int) hi)
    (hn : ∀ lo hi : Nat, lo0 ≤ lo → lo < hi → hi ≤ hi0 → ¬ good ((lo + hi) / 2) → ∀ k, F (k + 1) lo hi = F k lo (((lo + hi) / 2 : Nat) : Int)) :
    ∃ s, lo0 ≤ s ∧ s ≤ hi0 ∧ (∀ c, lo0 ≤ c → c < s → good c) ∧ (∀ c, s ≤ c → c < hi0 → ¬ good c) ∧ ∀ r, Ev (fun k => F k (s : Int) (s : Int)) r → Ev (fun k => F k (lo0 : Int) (hi0 : Int)) r := by
  have key : ∀ d (lo hi : Nat), hi - lo ≤ d → lo0 ≤ lo → lo ≤ hi → hi ≤ hi0 → (∀ c, lo0 ≤ c → c < lo → good c) → (∀ c, hi ≤ c → c < hi0 → ¬ good c) →
      ∃ s, lo0 ≤ s ∧ s ≤ hi0 ∧ (∀ c, lo0 ≤ c → c < s → good c) ∧ (∀ c, s ≤ c → c < hi0 → ¬ good c) ∧ ∀ r, Ev (fun k => F k (s : Int) (s : Int)) r → Ev (fun k => F k (lo : Int) (hi : Int)) r := by
    intro d
    induction d with
    | zero =>
      intro lo hi hd h1 h2 h3 hg hb
      obtain rfl : lo = hi := by omega
      exact ⟨lo, h1, h3, hg, hb, fun r h => h⟩
    | succ d ih =>
      intro lo hi hd h1 h2 h3 hg hb
      by_cases he : lo = hi
      · subst he
        exact ⟨lo, h1, h3, hg, hb, fun r h => h⟩
      · have hlt : lo < hi := by omega
        by_cases hc : good ((lo + hi) / 2)
        · obtain ⟨s, a1, a2, a3, a4, a5⟩ := ih ((lo + hi) / 2 + 1) hi (by omega) (by omega) (by omega) h3 (fun c h4 h5 => hm c ((lo + hi) / 2) h4 (by omega) (by omega) hc) hb
          exact ⟨s, a1, a2, a3, a4, fun r h => Ev.step (hy lo hi h1 hlt h3 hc) (a5 r h)⟩
        · obtain ⟨s, a1, a2, a3, a4, a5⟩ := ih lo ((lo + hi) / 2) (by omega) h1 (by omega) (by omega) hg (fun c h4 h5 hc' => hc (hm ((lo + hi) / 2) c (by omega) h4 h5 hc'))
          exact ⟨s, a1, a2, a3, a4, fun r h => Ev.step (hn lo hi h1 hlt h3 hc) (a5 r h)⟩
  exact key (hi0 - lo0) lo0 hi0 (Nat.le_refl _) (Nat.le_refl _) h0 (Nat.le_refl _) (fun c h1 h2 => absurd h2 (by omega)) (fun c h1 h2 => absurd h2 (by omega))
theorem rd_mid (P L T : List E) (i : Nat) (h1 : P.length ≤ i) (h2 : i < P.length + L.length) : rd_T40 (P ++ (L ++ T)) (i : Int) = L.getD (i - P.length) z40 := by
  unfold rd_T40
  rw [Int.toNat_natCast]
  simp only [List.getD_eq_getElem?_getD]
  rw [List.getElem?_append_right h1, List.getElem?_append_left (by omega)]
theorem getD_e (L : List E) (i : Nat) (h : i < L.length) : L.getD i z40 = L[i] := by simp [h]
theorem So.get {L : List E} (h : So L) {i j : Nat} (hij : i ≤ j) (hj : j < L.length) : (L.getD i z40).f0 ≤ (L.getD j z40).f0 := by
  rw [getD_e L i (by omega), getD_e L j hj]
  by_cases he : i = j
  · subst he; exact Int.le_refl _
  · exact List.pairwise_iff_getElem.1 h i j (by omega) hj (by omega)
theorem Sm.get {L : List E} (h : Sm L) {i : Nat} (hi : i < L.length) : -32768 ≤ (L.getD i z40).f0 ∧ (L.getD i z40).f0 ≤ 32767 := by
  rw [getD_e L i hi]
  exact h _ (List.getElem_mem _)
theorem mem_take' {L : List E} {t : Nat} {y : E} (h : y ∈ L.take t) : ∃ i, i < t ∧ i < L.length ∧ y = L.getD i z40 := by
  obtain ⟨i, hi, he⟩ := List.mem_iff_getElem.1 h
  simp only [List.length_take] at hi
  refine ⟨i, by omega, by omega, ?_⟩
  rw [getD_e L i (by omega), ← he, List.getElem_take]
theorem mem_drop' {L : List E} {t : Nat} {y : E} (h : y ∈ L.drop t) : ∃ i, t ≤ i ∧ i < L.length ∧ y = L.getD i z40 := by
  obtain ⟨i, hi, he⟩ := List.mem_iff_getElem.1 h
  simp only [List.length_drop] at hi
  refine ⟨t + i, by omega, by omega, ?_⟩
  rw [getD_e L (t + i) (by omega), ← he, List.getElem_drop]
theorem So.take {L : List E} (h : So L) (t : Nat) : So (L.take t) := List.Pairwise.sublist (List.take_sublist _ _) h
theorem So.drop {L : List E} (h : So L) (t : Nat) : So (L.drop t) := List.Pairwise.sublist (List.drop_sublist _ _) h
theorem So.app {L R : List E} (h : So L) (h2 : So R) (h3 : ∀ y ∈ L, ∀ z ∈ R, y.f0 ≤ z.f0) : So (L ++ R) := List.pairwise_append.2 ⟨h, h2, h3⟩
theorem up_t (T : List E) (e : E) : ∀ (R1 Q : List E), Q.length + R1.length + T.length < 900000 →
    Ev (fun k => impl_Entry_75.l1 k (Q ++ e :: (R1 ++ T)) ((Q.length + 1 + R1.length : Nat) : Int) (Q.length : Int)) (Q ++ (R1 ++ e :: T)) := by
  intro R1
  induction R1 with
  | nil =>
    intro Q hl
    refine Ev.step (f := fun _ => some _) (fun k => ?_) (Ev.now _)
    simp only [impl_Entry_75.l1]
    rw [if_neg (by simp only [List.length_nil]; unfold wrap64; omega)]
    rfl
  | cons v R1 ih =>
    intro Q hl
    simp only [List.length_cons] at hl
    have h1 := ih (Q ++ [v]) (by simp; omega)
    have hx : Q ++ [v] ++ e :: (R1 ++ T) = Q ++ v :: ([] ++ e :: (R1 ++ T)) := by simp
    have hy : Q ++ [v] ++ (R1 ++ e :: T) = Q ++ (v :: R1 ++ e :: T) := by simp
    rw [hx, hy] at h1
    have w1 : wrap64 (((Q.length + 1 + (v :: R1).length : Nat) : Int) - 1) = (Q.length + 1 + R1.length : Nat) := by simp only [List.length_cons]; unfold wrap64; omega
    have w2 : wrap64 ((Q.length : Int) + 1) = (Q.length : Int) + 1 := by unfold wrap64; omega
    have hlen : ((Q ++ e :: (v :: R1 ++ T)).length : Int) = Q.length + R1.length + T.length + 2 := by simp; omega
    refine Ev.step (fun k => ?_) h1
    simp only [impl_Entry_75.l1, w1, w2]
    rw [if_pos (by omega), if_pos (by omega), if_pos (by omega), if_pos (by omega), if_pos (by omega)]
    have hz : Q ++ e :: (v :: R1 ++ T) = Q ++ e :: ([] ++ v :: (R1 ++ T)) := by simp
    rw [hz, rd_far Q e [] v (R1 ++ T) _ (by simp), rd_at Q e _ _ rfl]
    have hs := swapF Q e [] v (R1 ++ T) (Q.length : Int).toNat ((Q.length : Int) + 1).toNat (by simp) (by simp only [List.length_nil]; omega)
    have e1 : (⟨v.f0, v.f1, v.f2, v.f3, v.f4⟩ : E) = v := rfl
    have e2 : (⟨e.f0, e.f1, e.f2, e.f3, e.f4⟩ : E) = e := rfl
    rw [e1, e2, hs]
    congr 1
    · simp; omega
    · simp
theorem down_t (Q : List E) (e : E) : ∀ (n : Nat) (L2 T : List E), L2.length = n → Q.length + L2.length + T.length < 900000 →
    Ev (fun k => impl_Entry_75.l3 k (Q ++ (L2 ++ e :: T)) (Q.length : Int) ((Q.length + L2.length : Nat) : Int)) (Q ++ (e :: (L2 ++ T))) := by
  intro n
  induction n with
  | zero =>
    intro L2 T hL hl
    obtain rfl := List.length_eq_zero_iff.1 hL
    refine Ev.step (f := fun _ => some _) (fun k => ?_) (Ev.now _)
    simp only [impl_Entry_75.l3]
    rw [if_neg (by simp)]
    rfl
  | succ n ih =>
    intro L2 T hL hl
    obtain ⟨L', u, rfl⟩ : ∃ U' u, L2 = U' ++ [u] := ⟨L2.dropLast, L2.getLast (by intro h; simp [h] at hL), (List.dropLast_concat_getLast _).symm⟩
    have hL' : L'.length = n := by simpa using hL
    simp only [List.length_append, List.length_singleton] at hl
    have h1 := ih L' (u :: T) hL' (by simp; omega)
    have hx : Q ++ (L' ++ [u] ++ e :: T) = (Q ++ L') ++ u :: e :: T := by simp
    have hy : Q ++ (L' ++ e :: (u :: T)) = (Q ++ L') ++ e :: u :: T := by simp
    have hz : Q ++ (e :: (L' ++ u :: T)) = Q ++ (e :: (L' ++ [u] ++ T)) := by simp
    rw [hy, hz] at h1
    have w1 : wrap64 (((Q.length + (L' ++ [u]).length : Nat) : Int) - 1) = ((Q ++ L').length : Int) := by simp only [List.length_append, List.length_singleton]; unfold wrap64; omega
    have hlen : (((Q ++ L') ++ u :: e :: T).length : Int) = Q.length + L'.length + T.length + 2 := by simp; omega
    have hj : ((Q.length + (L' ++ [u]).length : Nat) : Int) = ((Q ++ L').length : Int) + 1 := by simp only [List.length_append, List.length_singleton]; omega
    refine Ev.step (fun k => ?_) h1
    simp only [impl_Entry_75.l3, w1]
    rw [hx, hj]
    have hq : ((Q ++ L').length : Int) = Q.length + L'.length := by simp
    rw [if_pos (by omega), if_pos (by omega), if_pos (by omega), if_pos (by omega), if_pos (by omega)]
    rw [rd_2 (Q ++ L') u e T _ rfl, rd_at (Q ++ L') u _ _ rfl]
    have hs := swap2 (Q ++ L') u e T ((Q ++ L').length : Int).toNat (((Q ++ L').length : Int) + 1).toNat (by omega) (Int.toNat_natCast _)
    have e1 : (⟨u.f0, u.f1, u.f2, u.f3, u.f4⟩ : E) = u := rfl
    have e2 : (⟨e.f0, e.f1, e.f2, e.f3, e.f4⟩ : E) = e := rfl
    rw [e1, e2, hs, List.length_append]
end SortL
end Go.Proofs.Ytckcgfpbmojmoaa.G
