import Derived.Test.YtckcgfpbmojmoaaZFLibSmg
namespace Go.Proofs.Ytckcgfpbmojmoaa.G
open Go.RowKit Go.Proofs.YtckcgfpbmojmoaaW.PrintWords Go.Proofs.YtckcgfpbmojmoaaW.PrintLast Go.Proofs.YtckcgfpbmojmoaaW.PrintMore
attribute [local go_sem] max2_int min2_int max_two min_two max_three min_three max_four min_four
set_option linter.unusedVariables false
set_option linter.unusedSimpArgs false
open Go.Proofs.Ytckcgfpbmojmoaa.Wk Go.Proofs.Ytckcgfpbmojmoaa.Pl
namespace SortL
theorem sym_left (P : List E) (e : E) (R S : List E) (hR : So R) (hs : Sm (e :: R)) (hl : P.length + R.length + S.length < 600000) :
    ∃ M, So M ∧ Sd M (e :: R) ∧ Ev (fun k => impl_Entry_75.l0 k (P ++ (e :: (R ++ S))) (P.length : Int) ((P.length + 1 : Nat) : Int) ((P.length + 1 + R.length : Nat) : Int)) (P ++ (M ++ S)) := by
  have he := hs e List.mem_cons_self
  have hsR : Sm R := fun y hy => hs y (List.mem_cons_of_mem _ hy)
  have hlen : ((P ++ (e :: (R ++ S))).length : Int) = P.length + R.length + S.length + 1 := by simp; omega
  have hrd : ∀ c : Nat, P.length + 1 ≤ c → c < P.length + 1 + R.length → rd_T40 (P ++ (e :: (R ++ S))) (c : Int) = R.getD (c - (P.length + 1)) z40 := by
    intro c h1 h2
    have hx : P ++ (e :: (R ++ S)) = (P ++ [e]) ++ (R ++ S) := by simp
    rw [hx, rd_mid (P ++ [e]) R S c (by simp; omega) (by simp; omega)]
    simp
  have hre : rd_T40 (P ++ (e :: (R ++ S))) (P.length : Int) = e := rd_at P e _ _ rfl
  obtain ⟨s, a1, a2, a3, a4, a5⟩ := bsearch (F := fun k i j => impl_Entry_75.l0 k (P ++ (e :: (R ++ S))) (P.length : Int) i j) (fun c => (R.getD (c - (P.length + 1)) z40).f0 < e.f0) (P.length + 1) (P.length + 1 + R.length) (by omega)
    (fun c c' h1 h2 h3 h4 => Int.lt_of_le_of_lt (hR.get (by omega) (by omega)) h4)
    (fun lo hi h1 h2 h3 hg k => by
      have hb := hsR.get (i := (lo + hi) / 2 - (P.length + 1)) (by omega)
      simp only [impl_Entry_75.l0, half lo hi (by omega)]
      rw [if_pos (by omega), if_pos (by omega), if_pos (by omega), if_pos (by omega), if_pos (by omega), hrd _ (by omega) (by omega), hre, cmp_t _ _ hb he, Option.bind_some, if_pos (by omega)]
      congr 1
      unfold wrap64; omega)
    (fun lo hi h1 h2 h3 hg k => by
      have hb := hsR.get (i := (lo + hi) / 2 - (P.length + 1)) (by omega)
      simp only [impl_Entry_75.l0, half lo hi (by omega)]
      rw [if_pos (by omega), if_pos (by omega), if_pos (by omega), if_pos (by omega), if_pos (by omega), hrd _ (by omega) (by omega), hre, cmp_t _ _ hb he, Option.bind_some, if_neg (by omega)])
  have ht : ∀ y ∈ R.take (s - (P.length + 1)), y.f0 < e.f0 := by
    intro y hy
    obtain ⟨i, h1, h2, rfl⟩ := mem_take' hy
    have := a3 (i + (P.length + 1)) (by omega) (by omega)
    rwa [Nat.add_sub_cancel] at this
  have hd : ∀ y ∈ R.drop (s - (P.length + 1)), e.f0 ≤ y.f0 := by
    intro y hy
    obtain ⟨i, h1, h2, rfl⟩ := mem_drop' hy
    have := a4 (i + (P.length + 1)) (by omega) (by omega)
    rw [Nat.add_sub_cancel] at this
    omega
  have htd : R.take (s - (P.length + 1)) ++ R.drop (s - (P.length + 1)) = R := List.take_append_drop _ _
  have hlt : (R.take (s - (P.length + 1))).length = s - (P.length + 1) := by rw [List.length_take]; omega
  generalize hR1 : R.take (s - (P.length + 1)) = R1 at ht htd hlt
  generalize hR2 : R.drop (s - (P.length + 1)) = R2 at hd htd
  refine ⟨R1 ++ e :: R2, ?_, ?_, a5 _ ?_⟩
  · refine So.app (hR1 ▸ hR.take _) (List.pairwise_cons.2 ⟨hd, hR2 ▸ hR.drop _⟩) ?_
    intro y hy z hz
    rcases List.mem_cons.1 hz with rfl | hz
    · exact Int.le_of_lt (ht y hy)
    · exact Int.le_trans (Int.le_of_lt (ht y hy)) (hd z hz)
  · have h1 : Sd (R1 ++ [e]) ([e] ++ R1) := Sd.swap fun y hy z hz hyz => by
      obtain rfl := List.mem_singleton.1 hz
      have := ht y hy
      omega
    have h2 := h1.app (Sd.refl R2)
    rw [← htd]
    simpa using h2
  · refine Ev.step (f := fun k => impl_Entry_75.l1 k (P ++ (e :: (R ++ S))) (s : Int) (P.length : Int)) (fun k => ?_) ?_
    · simp only [impl_Entry_75.l0]
      rw [if_neg (by omega)]
    · have h3 := up_t (R2 ++ S) e R1 P (by have := congrArg List.length htd; simp at this; simp; omega)
      have hx : P ++ e :: (R1 ++ (R2 ++ S)) = P ++ (e :: (R ++ S)) := by rw [← htd]; simp
      have hy : P ++ (R1 ++ e :: (R2 ++ S)) = P ++ (R1 ++ e :: R2 ++ S) := by simp
      have hn : P.length + 1 + R1.length = s := by omega
      rw [hx, hy, hn] at h3
      exact h3
theorem sym_right (P L : List E) (e : E) (S : List E) (hL : So L) (hs : Sm (L ++ [e])) (hl : P.length + L.length + S.length < 600000) :
    ∃ M, So M ∧ Sd M (L ++ [e]) ∧ Ev (fun k => impl_Entry_75.l2 k (P ++ (L ++ (e :: S))) ((P.length + L.length : Nat) : Int) (P.length : Int) ((P.length + L.length : Nat) : Int)) (P ++ (M ++ S)) := by
  have he := hs e (by simp)
  have hsL : Sm L := hs.left
  have hlen : ((P ++ (L ++ (e :: S))).length : Int) = P.length + L.length + S.length + 1 := by simp; omega
  have hrd : ∀ c : Nat, P.length ≤ c → c < P.length + L.length → rd_T40 (P ++ (L ++ (e :: S))) (c : Int) = L.getD (c - P.length) z40 := fun c h1 h2 => rd_mid P L (e :: S) c h1 h2
  have hre : rd_T40 (P ++ (L ++ (e :: S))) ((P.length + L.length : Nat) : Int) = e := by
    have hx : P ++ (L ++ (e :: S)) = (P ++ L) ++ e :: S := by simp
    rw [hx]
    exact rd_at (P ++ L) e S _ (by simp)
  obtain ⟨s, a1, a2, a3, a4, a5⟩ := bsearch (F := fun k i j => impl_Entry_75.l2 k (P ++ (L ++ (e :: S))) ((P.length + L.length : Nat) : Int) i j) (fun c => (L.getD (c - P.length) z40).f0 ≤ e.f0) P.length (P.length + L.length) (by omega)
    (fun c c' h1 h2 h3 h4 => Int.le_trans (hL.get (by omega) (by omega)) h4)
    (fun lo hi h1 h2 h3 hg k => by
      have hb := hsL.get (i := (lo + hi) / 2 - P.length) (by omega)
      simp only [impl_Entry_75.l2, half lo hi (by omega)]
      rw [if_pos (by omega), if_pos (by omega), if_pos (by omega), if_pos (by omega), if_pos (by omega), hre, hrd ((lo + hi) / 2) (by omega) (by omega), cmp_t _ _ he hb, Option.bind_some, if_neg (by omega)]
      congr 1
      unfold wrap64; omega)
    (fun lo hi h1 h2 h3 hg k => by
      have hb := hsL.get (i := (lo + hi) / 2 - P.length) (by omega)
      simp only [impl_Entry_75.l2, half lo hi (by omega)]
      rw [if_pos (by omega), if_pos (by omega), if_pos (by omega), if_pos (by omega), if_pos (by omega), hre, hrd ((lo + hi) / 2) (by omega) (by omega), cmp_t _ _ he hb, Option.bind_some, if_pos (by omega)])
  have ht : ∀ y ∈ L.take (s - P.length), y.f0 ≤ e.f0 := by
    intro y hy
    obtain ⟨i, h1, h2, rfl⟩ := mem_take' hy
    have := a3 (i + P.length) (by omega) (by omega)
    rwa [Nat.add_sub_cancel] at this
  have hd : ∀ y ∈ L.drop (s - P.length), e.f0 < y.f0 := by
    intro y hy
    obtain ⟨i, h1, h2, rfl⟩ := mem_drop' hy
    have := a4 (i + P.length) (by omega) (by omega)
    rw [Nat.add_sub_cancel] at this
    omega
  have htd : L.take (s - P.length) ++ L.drop (s - P.length) = L := List.take_append_drop _ _
  have hlt : (L.take (s - P.length)).length = s - P.length := by rw [List.length_take]; omega
  generalize hL1 : L.take (s - P.length) = L1 at ht htd hlt
  generalize hL2 : L.drop (s - P.length) = L2 at hd htd
  refine ⟨L1 ++ e :: L2, ?_, ?_, a5 _ ?_⟩
  · refine So.app (hL1 ▸ hL.take _) (List.pairwise_cons.2 ⟨fun y hy => Int.le_of_lt (hd y hy), hL2 ▸ hL.drop _⟩) ?_
    intro y hy z hz
    rcases List.mem_cons.1 hz with rfl | hz
    · exact ht y hy
    · exact Int.le_trans (ht y hy) (Int.le_of_lt (hd z hz))
  · have h1 : Sd ([e] ++ L2) (L2 ++ [e]) := Sd.swap fun y hy z hz hyz => by
      obtain rfl := List.mem_singleton.1 hy
      have := hd z hz
      omega
    have h2 := (Sd.refl L1).app h1
    rw [← htd]
    simpa using h2
  · refine Ev.step (f := fun k => impl_Entry_75.l3 k (P ++ (L ++ (e :: S))) (s : Int) ((P.length + L.length : Nat) : Int)) (fun k => ?_) ?_
    · simp only [impl_Entry_75.l2]
      rw [if_neg (by omega)]
    · have hll := congrArg List.length htd
      simp only [List.length_append] at hll
      have h3 := down_t (P ++ L1) e L2.length L2 S rfl (by simp; omega)
      have hx : (P ++ L1) ++ (L2 ++ e :: S) = P ++ (L ++ (e :: S)) := by rw [← htd]; simp
      have hy : (P ++ L1) ++ (e :: (L2 ++ S)) = P ++ (L1 ++ e :: L2 ++ S) := by simp
      have hn : (P ++ L1).length = s := by simp; omega
      have hn2 : s + L2.length = P.length + L.length := by omega
      rw [hx, hy, hn, hn2] at h3
      exact h3
end SortL
end Go.Proofs.Ytckcgfpbmojmoaa.G
