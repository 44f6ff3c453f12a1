import Derived.Test.YtckcgfpbmojmoaaZFLibSmi
namespace Go.Proofs.Ytckcgfpbmojmoaa.G
open Go.RowKit Go.Proofs.YtckcgfpbmojmoaaW.PrintWords Go.Proofs.YtckcgfpbmojmoaaW.PrintLast Go.Proofs.YtckcgfpbmojmoaaW.PrintMore
attribute [local go_sem] max2_int min2_int max_two min_two max_three min_three max_four min_four
set_option linter.unusedVariables false
set_option linter.unusedSimpArgs false
open Go.Proofs.Ytckcgfpbmojmoaa.Wk Go.Proofs.Ytckcgfpbmojmoaa.Pl
namespace SortL
theorem l4_end (k : Nat) (x : List E) (a m b mid nn p : Int) (s : Nat) : impl_Entry_75.l4 (k + 1) x a m b mid nn (s : Int) (s : Int) p = if (s : Int) < m then impl_Entry_75.j6 k x a m b mid (s : Int) (wrap64 (nn - (s : Int))) (decide (m < wrap64 (nn - (s : Int)))) else impl_Entry_75.j6 k x a m b mid (s : Int) (wrap64 (nn - (s : Int))) false := by
  simp only [impl_Entry_75.l4]
  rw [if_neg (by omega)]
theorem mid_t {n : Nat} (hI : Merges n) (P L R S : List E) (hn : L.length + R.length ≤ n + 1) (hL : So L) (hR : So R) (h2L : 2 ≤ L.length) (h2R : 2 ≤ R.length) (hS : Sm (L ++ R)) (hl : P.length + L.length + R.length + S.length < 500000)
    (a m b mid nn lo0 hi0 : Nat) (ea : a = P.length) (em : m = P.length + L.length) (eb : b = P.length + L.length + R.length) (emid : mid = (a + b) / 2) (enn : nn = mid + m)
    (hcase : (m > mid ∧ lo0 + b = nn ∧ hi0 = mid) ∨ (m ≤ mid ∧ lo0 = a ∧ hi0 = m)) :
    ∃ M, So M ∧ Sd M (L ++ R) ∧ Ev (fun k => impl_Entry_75.l4 k (P ++ (L ++ (R ++ S))) (a : Int) (m : Int) (b : Int) (mid : Int) (nn : Int) (lo0 : Int) (hi0 : Int) ((nn - 1 : Nat) : Int)) (P ++ (M ++ S)) := by
  have hlen : ((P ++ (L ++ (R ++ S))).length : Int) = P.length + L.length + R.length + S.length := by simp; omega
  have hrL : ∀ c : Nat, a ≤ c → c < m → rd_T40 (P ++ (L ++ (R ++ S))) (c : Int) = L.getD (c - a) z40 := fun c h1 h2 => by
    rw [rd_mid P L (R ++ S) c (by omega) (by omega), ea]
  have hrR : ∀ c : Nat, m ≤ c → c < b → rd_T40 (P ++ (L ++ (R ++ S))) (c : Int) = R.getD (c - m) z40 := fun c h1 h2 => by
    have hx : P ++ (L ++ (R ++ S)) = (P ++ L) ++ (R ++ S) := by simp
    rw [hx, rd_mid (P ++ L) R S c (by simp; omega) (by simp; omega), em]
    simp
  have hab : 4 ≤ b - a := by omega
  have hlohi : lo0 ≤ hi0 := by omega
  have hin : ∀ c, lo0 ≤ c → c < hi0 → a ≤ c ∧ c < m ∧ m ≤ nn - 1 - c ∧ nn - 1 - c < b := by
    intro c h1 h2
    rcases hcase with ⟨c1, c2, c3⟩ | ⟨c1, c2, c3⟩
    · refine ⟨by omega, by omega, by omega, by omega⟩
    · refine ⟨by omega, by omega, by omega, by omega⟩
  obtain ⟨s, a1, a2, a3, a4, a5⟩ := bsearch (F := fun k i j => impl_Entry_75.l4 k (P ++ (L ++ (R ++ S))) (a : Int) (m : Int) (b : Int) (mid : Int) (nn : Int) i j ((nn - 1 : Nat) : Int)) (fun c => (L.getD (c - a) z40).f0 ≤ (R.getD (nn - 1 - c - m) z40).f0) lo0 hi0 hlohi
    (fun c c' h1 h2 h3 h4 => by
      obtain ⟨i1, i2, i3, i4⟩ := hin c h1 (by omega)
      obtain ⟨j1, j2, j3, j4⟩ := hin c' (by omega) h3
      exact Int.le_trans (hL.get (by omega) (by omega)) (Int.le_trans h4 (hR.get (by omega) (by omega))))
    (fun lo hi h1 h2 h3 hg k => by
      obtain ⟨i1, i2, i3, i4⟩ := hin ((lo + hi) / 2) (by omega) (by omega)
      have hw : wrap64 (((nn - 1 : Nat) : Int) - (((lo + hi) / 2 : Nat) : Int)) = ((nn - 1 - (lo + hi) / 2 : Nat) : Int) := by unfold wrap64; omega
      have hb1 := hS.left.get (i := (lo + hi) / 2 - a) (by omega)
      have hb2 := hS.right.get (i := nn - 1 - (lo + hi) / 2 - m) (by omega)
      simp only [impl_Entry_75.l4, half lo hi (by omega), hw]
      rw [if_pos (by omega), if_pos (by omega), if_pos (by omega), if_pos (by omega), if_pos (by omega), hrL ((lo + hi) / 2) i1 i2, hrR (nn - 1 - (lo + hi) / 2) i3 i4, cmp_t _ _ hb2 hb1, Option.bind_some, if_neg (by omega)]
      congr 1
      unfold wrap64; omega)
    (fun lo hi h1 h2 h3 hg k => by
      obtain ⟨i1, i2, i3, i4⟩ := hin ((lo + hi) / 2) (by omega) (by omega)
      have hw : wrap64 (((nn - 1 : Nat) : Int) - (((lo + hi) / 2 : Nat) : Int)) = ((nn - 1 - (lo + hi) / 2 : Nat) : Int) := by unfold wrap64; omega
      have hb1 := hS.left.get (i := (lo + hi) / 2 - a) (by omega)
      have hb2 := hS.right.get (i := nn - 1 - (lo + hi) / 2 - m) (by omega)
      simp only [impl_Entry_75.l4, half lo hi (by omega), hw]
      rw [if_pos (by omega), if_pos (by omega), if_pos (by omega), if_pos (by omega), if_pos (by omega), hrL ((lo + hi) / 2) i1 i2, hrR (nn - 1 - (lo + hi) / 2) i3 i4, cmp_t _ _ hb2 hb1, Option.bind_some, if_pos (by omega)])
  have hse : a ≤ s ∧ s ≤ m ∧ m ≤ nn - s ∧ nn - s ≤ b ∧ s ≤ nn := by omega
  have q1 : ∀ y ∈ R.take (nn - s - m), ∀ z ∈ L.drop (s - a), y.f0 < z.f0 := by
    intro y hy z hz
    obtain ⟨i, h1, h2, rfl⟩ := mem_take' hy
    obtain ⟨j, h3, h4, rfl⟩ := mem_drop' hz
    have hlt : s < hi0 := by omega
    have hb := a4 s (Nat.le_refl _) hlt
    have e1 := hR.get (i := i) (j := nn - 1 - s - m) (by omega) (by omega)
    have e2 := hL.get (i := s - a) (j := j) h3 h4
    omega
  have q2 : ∀ y ∈ L.take (s - a), ∀ z ∈ R.drop (nn - s - m), y.f0 ≤ z.f0 := by
    intro y hy z hz
    obtain ⟨i, h1, h2, rfl⟩ := mem_take' hy
    obtain ⟨j, h3, h4, rfl⟩ := mem_drop' hz
    have hlt : lo0 < s := by omega
    have hg := a3 (s - 1) (by omega) (by omega)
    have e1 := hL.get (i := i) (j := s - 1 - a) (by omega) (by omega)
    have e2 := hR.get (i := nn - 1 - (s - 1) - m) (j := j) (by omega) h4
    omega
  have q3 : ∀ y ∈ L.take (s - a), ∀ z ∈ L.drop (s - a), y.f0 ≤ z.f0 := by
    intro y hy z hz
    obtain ⟨i, h1, h2, rfl⟩ := mem_take' hy
    obtain ⟨j, h3, h4, rfl⟩ := mem_drop' hz
    exact hL.get (by omega) h4
  have q4 : ∀ y ∈ R.take (nn - s - m), ∀ z ∈ R.drop (nn - s - m), y.f0 ≤ z.f0 := by
    intro y hy z hz
    obtain ⟨i, h1, h2, rfl⟩ := mem_take' hy
    obtain ⟨j, h3, h4, rfl⟩ := mem_drop' hz
    exact hR.get (by omega) h4
  have tL : L.take (s - a) ++ L.drop (s - a) = L := List.take_append_drop _ _
  have tR : R.take (nn - s - m) ++ R.drop (nn - s - m) = R := List.take_append_drop _ _
  have l1 : (L.take (s - a)).length = s - a := by rw [List.length_take]; omega
  have l2 : (L.drop (s - a)).length = m - s := by rw [List.length_drop]; omega
  have l3 : (R.take (nn - s - m)).length = nn - s - m := by rw [List.length_take]; omega
  have l4 : (R.drop (nn - s - m)).length = b - (nn - s) := by rw [List.length_drop]; omega
  have s1 := hL.take (s - a)
  have s2 := hL.drop (s - a)
  have s3 := hR.take (nn - s - m)
  have s4 := hR.drop (nn - s - m)
  generalize L.take (s - a) = A1 at q2 q3 tL l1 s1
  generalize L.drop (s - a) = A2 at q1 q3 tL l2 s2
  generalize R.take (nn - s - m) = B1 at q1 q4 tR l3 s3
  generalize R.drop (nn - s - m) = B2 at q2 q4 tR l4 s4
  obtain ⟨M, m1, m2, m3⟩ := join_t hI P A1 A2 B1 B2 S (by omega) (by omega) s1 s2 s3 s4 q3 q4 q1 q2 (by rw [tL, tR]; exact hS) (by omega) (decide (s < m ∧ m < nn - s)) (by rw [decide_eq_true_iff]; omega)
  rw [tL, tR] at m2 m3
  refine ⟨M, m1, m2, a5 _ ?_⟩
  have ew : wrap64 ((nn : Int) - (s : Int)) = ((nn - s : Nat) : Int) := by unfold wrap64; omega
  have e0 : (P.length : Int) = (a : Int) := by omega
  have e1 : ((P.length + A1.length + A2.length : Nat) : Int) = (m : Int) := by omega
  have e2 : ((P.length + A1.length + A2.length + B1.length + B2.length : Nat) : Int) = (b : Int) := by omega
  have e3 : ((P.length + A1.length + B1.length : Nat) : Int) = (mid : Int) := by omega
  have e4 : ((P.length + A1.length : Nat) : Int) = (s : Int) := by omega
  have e5 : ((P.length + A1.length + A2.length + B1.length : Nat) : Int) = ((nn - s : Nat) : Int) := by omega
  rw [e0, e1, e2, e3, e4, e5] at m3
  refine Ev.step (fun k => ?_) m3
  rw [l4_end, ew]
  by_cases hc : s < m
  · rw [if_pos (by omega)]
    congr 1
    by_cases hd : m < nn - s
    · rw [decide_eq_true (by omega), decide_eq_true (by omega)]
    · rw [decide_eq_false (by omega), decide_eq_false (by omega)]
  · rw [if_neg (by omega), decide_eq_false (by omega)]
theorem sym_all : ∀ n, Merges n := by
  intro n
  induction n with
  | zero => intro P L R S hn _ _ h1 h2; omega
  | succ n ih =>
    intro P L R S hn hL hR h1 h2 hS hl
    have w1 : wrap64 (((P.length + L.length : Nat) : Int) - (P.length : Int)) = (L.length : Int) := by unfold wrap64; omega
    have w2 : wrap64 (((P.length + L.length + R.length : Nat) : Int) - ((P.length + L.length : Nat) : Int)) = (R.length : Int) := by unfold wrap64; omega
    by_cases c1 : L.length = 1
    · obtain ⟨e, rfl⟩ := List.length_eq_one_iff.1 c1
      obtain ⟨M, a1, a2, a3⟩ := sym_left P e R S hR (by simpa using hS) (by simp at hl; omega)
      refine ⟨M, a1, by simpa using a2, Ev.step (fun k => ?_) a3⟩
      simp only [impl_Entry_75.f]
      rw [if_pos (by rw [w1]; rfl)]
      simp
    · by_cases c2 : R.length = 1
      · obtain ⟨e, rfl⟩ := List.length_eq_one_iff.1 c2
        obtain ⟨M, a1, a2, a3⟩ := sym_right P L e S hL hS (by simp at hl; omega)
        refine ⟨M, a1, a2, Ev.step (fun k => ?_) a3⟩
        simp only [impl_Entry_75.f]
        rw [if_neg (by rw [w1]; omega), if_pos (by rw [w2]; rfl)]
        simp
      · have hh := half P.length (P.length + L.length + R.length) (by omega)
        have hw3 : wrap64 (((((P.length + (P.length + L.length + R.length)) / 2 : Nat) : Int)) + ((P.length + L.length : Nat) : Int)) = (((P.length + (P.length + L.length + R.length)) / 2 + (P.length + L.length) : Nat) : Int) := by unfold wrap64; omega
        have hw5 : wrap64 ((((P.length + (P.length + L.length + R.length)) / 2 + (P.length + L.length) : Nat) : Int) - 1) = (((P.length + (P.length + L.length + R.length)) / 2 + (P.length + L.length) - 1 : Nat) : Int) := by unfold wrap64; omega
        by_cases c3 : P.length + L.length > (P.length + (P.length + L.length + R.length)) / 2
        · obtain ⟨M, a1, a2, a3⟩ := mid_t ih P L R S hn hL hR (by omega) (by omega) hS hl P.length (P.length + L.length) (P.length + L.length + R.length) ((P.length + (P.length + L.length + R.length)) / 2) ((P.length + (P.length + L.length + R.length)) / 2 + (P.length + L.length)) ((P.length + (P.length + L.length + R.length)) / 2 + (P.length + L.length) - (P.length + L.length + R.length)) ((P.length + (P.length + L.length + R.length)) / 2) rfl rfl rfl rfl rfl (.inl ⟨c3, by omega, rfl⟩)
          have hw4 : wrap64 ((((P.length + (P.length + L.length + R.length)) / 2 + (P.length + L.length) : Nat) : Int) - ((P.length + L.length + R.length : Nat) : Int)) = (((P.length + (P.length + L.length + R.length)) / 2 + (P.length + L.length) - (P.length + L.length + R.length) : Nat) : Int) := by unfold wrap64; omega
          refine ⟨M, a1, a2, Ev.step (f := fun k => impl_Entry_75.j4 k (P ++ (L ++ (R ++ S))) (P.length : Int) ((P.length + L.length : Nat) : Int) ((P.length + L.length + R.length : Nat) : Int) (((P.length + (P.length + L.length + R.length)) / 2 : Nat) : Int) (((P.length + (P.length + L.length + R.length)) / 2 + (P.length + L.length) : Nat) : Int) (((P.length + (P.length + L.length + R.length)) / 2 + (P.length + L.length) - (P.length + L.length + R.length) : Nat) : Int) (((P.length + (P.length + L.length + R.length)) / 2 : Nat) : Int)) (fun k => ?_) (Ev.step (fun k => ?_) a3)⟩
          · simp only [impl_Entry_75.f]
            rw [w1, w2, hh, hw3, hw4, if_neg (by omega), if_neg (by omega), if_pos (by omega)]
          · simp only [impl_Entry_75.j4]
            rw [hw5]
        · obtain ⟨M, a1, a2, a3⟩ := mid_t ih P L R S hn hL hR (by omega) (by omega) hS hl P.length (P.length + L.length) (P.length + L.length + R.length) ((P.length + (P.length + L.length + R.length)) / 2) ((P.length + (P.length + L.length + R.length)) / 2 + (P.length + L.length)) P.length (P.length + L.length) rfl rfl rfl rfl rfl (.inr ⟨by omega, rfl, rfl⟩)
          refine ⟨M, a1, a2, Ev.step (f := fun k => impl_Entry_75.j4 k (P ++ (L ++ (R ++ S))) (P.length : Int) ((P.length + L.length : Nat) : Int) ((P.length + L.length + R.length : Nat) : Int) (((P.length + (P.length + L.length + R.length)) / 2 : Nat) : Int) (((P.length + (P.length + L.length + R.length)) / 2 + (P.length + L.length) : Nat) : Int) (P.length : Int) ((P.length + L.length : Nat) : Int)) (fun k => ?_) (Ev.step (fun k => ?_) a3)⟩
          · simp only [impl_Entry_75.f]
            rw [w1, w2, hh, hw3, if_neg (by omega), if_neg (by omega), if_neg (by omega)]
          · simp only [impl_Entry_75.j4]
            rw [hw5]
end SortL
end Go.Proofs.Ytckcgfpbmojmoaa.G
