/- The best order: the reference's and the program's are the same. Plain laws, no program in sight. -/
import Derived.Test.YtngpjamojkneeaaBestLib
import Derived.Test.YtngpjamojkneeaaFLibPairs
import Derived.Test.YtngpjamojkneeaaG1
namespace Go.Proofs.Ytngpjamojkneeaa.G
open Go.RowKit Go.Proofs.YtngpjamojkneeaaW.PrintWords Go.Proofs.YtngpjamojkneeaaW.PrintLast Go.Proofs.YtngpjamojkneeaaW.PrintMore
attribute [local go_sem] max2_int min2_int max_two min_two max_three min_three max_four min_four   -- for this text's walks alone
set_option linter.unusedVariables false
set_option linter.unusedSimpArgs false

open Go.Proofs.Ytngpjamojkneeaa.Wk Go.Proofs.Ytngpjamojkneeaa.Pl Go.Proofs.Ytngpjamojkneeaa.Best
namespace Best
theorem getD_set {α : Type} (xs : List α) (i j : Nat) (v d : α) : (xs.set i v).getD j d = if i = j ∧ i < xs.length then v else xs.getD j d := by
  by_cases h : i = j
  · subst h
    by_cases hl : i < xs.length
    · rw [if_pos ⟨rfl, hl⟩]; simp [List.getD, hl]
    · rw [if_neg (fun h => hl h.2), List.set_eq_of_length_le (by omega)]
  · rw [if_neg (fun e => h e.1)]
    simp [List.getD, List.getElem?_set_ne h]
def Bd (c : Nat) (t : List (List Int)) : Prop := ∀ i j : Nat, 0 ≤ (t.getD i []).getD j 0 ∧ (t.getD i []).getD j 0 ≤ (c : Int)
theorem Bd.mono {c d : Nat} {t : List (List Int)} (h : Bd c t) (hcd : c ≤ d) : Bd d t := fun i j => ⟨(h i j).1, by have := (h i j).2; omega⟩
theorem Bd.upd {c : Nat} {t : List (List Int)} (h : Bd c t) (hc : c ≤ 100000) (a b : Nat) : Bd (c + 1) (upd t a b) := by
  intro i j
  unfold G.upd
  rw [getD_set]
  split
  · rw [getD_set]
    split
    · have := h a b
      rw [Go.IntWalk.wrap64_in _ ⟨by omega, by omega⟩]
      omega
    · have := h a j
      omega
  · have := h i j
    omega
theorem Bd.step2 {c : Nat} {t : List (List Int)} (h : Bd c t) (hc : c ≤ 100000) (row : List Int) (a b : Nat) : Bd (c + 1) (step2 row a t b) := by
  unfold G.step2
  split
  · exact h.upd hc a b
  · exact h.mono (by omega)
theorem Bd.st2 {c : Nat} {t : List (List Int)} (h : Bd c t) (row : List Int) (a : Nat) : ∀ n, c + n ≤ 100000 → Bd (c + n) (stF (G.step2 row a) t n)
  | 0, _ => h
  | n + 1, hn => by rw [stF_succ]; exact (Bd.st2 h row a n (by omega)).step2 (by omega) row a n
theorem Bd.st1 {c : Nat} {t : List (List Int)} (h : Bd c t) {s : Nat} (hs : s ≤ 8) (row : List Int) : ∀ n, c + 8 * n ≤ 90000 → Bd (c + 8 * n) (stF (G.step1 s row) t n)
  | 0, _ => h
  | n + 1, hn => by rw [stF_succ]; exact ((Bd.st1 h hs row n (by omega)).st2 row n s (by omega)).mono (by omega)
theorem Bd.st0 {c : Nat} {t : List (List Int)} (h : Bd c t) {s : Nat} (hs : s ≤ 8) (m : List (List Int)) : ∀ n, c + 64 * n ≤ 80000 → Bd (c + 64 * n) (stF (G.step0 s m) t n)
  | 0, _ => h
  | n + 1, hn => by rw [stF_succ]; exact ((Bd.st0 h hs m n (by omega)).st1 hs (m.getD n []) s (by omega)).mono (by omega)
theorem square_bd (s n : Nat) : Bd 0 (squareL s n) := by
  intro i j
  have : ((squareL s n).getD i []).getD j 0 = 0 := by
    simp only [squareL, List.getD_eq_getElem?_getD]
    by_cases hi : i < n <;> by_cases hj : j < s <;> simp [hi, hj]
  omega
theorem pairs_bd (s : Nat) (m : List (List Int)) (hs : s ≤ 8) (hm : m.length ≤ 12) : Bd 768 (pairsL s m) := ((square_bd s s).st0 hs m m.length (by omega)).mono (by omega)
theorem ahd_bound {pr : List (List Int)} (h : Bd 768 pr) (i s : Nat) : ∀ n, n ≤ 8 → 0 ≤ ahdN pr i s n ∧ ahdN pr i s n ≤ 768 * (n : Int)
  | 0, _ => ⟨Int.le_refl _, Int.le_refl _⟩
  | n + 1, hn => by
    have ih := ahd_bound h i s n (by omega)
    have hx := h i n
    have e : ahdN pr i s (n + 1) = if s.testBit n then wrap64 (ahdN pr i s n + (pr.getD i []).getD n 0) else ahdN pr i s n := stF_succ _ _ _
    rw [e]
    split
    · rw [Go.IntWalk.wrap64_in _ ⟨by omega, by omega⟩]
      omega
    · omega
structure Inv (pr : List (List Int)) (q P n : Nat) (xs ys : List Int) : Prop where
  same : ∀ s, s < P → ys.getD s 0 = xs.getD s 0
  bnd : ∀ s : Nat, 0 ≤ xs.getD s 0 ∧ xs.getD s 0 ≤ 6144 * (s : Int)
  zero : ∀ s, n < s → xs.getD s 0 = 0
  pick : ∀ s, 1 ≤ s → s ≤ n → s < P → ∃ i, i < q ∧ cnd pr q xs s i = true
theorem exB : (List.range 256).all (fun s => s == 0 || (List.range 8).any fun i => s.testBit i) = true := by decide +kernel
theorem ex_bit {s q : Nat} (hs : s < 256) (h0 : 1 ≤ s) (hq : s < 2 ^ q) : ∃ i, i < q ∧ i < 8 ∧ s.testBit i = true := by
  have h1 := List.all_eq_true.1 exB s (List.mem_range.2 hs)
  rw [Bool.or_eq_true] at h1
  rcases h1 with h1 | h1
  · have := beq_iff_eq.1 h1; omega
  · obtain ⟨i, hi, hb⟩ := List.any_eq_true.1 h1
    refine ⟨i, ?_, List.mem_range.1 hi, hb⟩
    rcases Nat.lt_or_ge i q with h | h
    · exact h
    · have := Nat.testBit_lt_two_pow (Nat.lt_of_lt_of_le hq (Nat.pow_le_pow_right (by omega) h))
      rw [this] at hb
      cases hb
def VV (pr : List (List Int)) (q : Nat) (xs : List Int) (s i : Nat) : Int := wrap64 (ahdN pr i (rs s i) q + xs.getD (rs s i) 0)
structure RowInv (pr : List (List Int)) (q s n : Nat) (xs ys a b : List Int) : Prop where
  oa : ∀ t, t ≠ s → a.getD t 0 = xs.getD t 0
  ob : ∀ t, t ≠ s → b.getD t 0 = ys.getD t 0
  val : (a.getD s 0 = 0 ∧ b.getD s 0 = -1 ∧ ∀ i, i < n → s.testBit i = false) ∨ (b.getD s 0 = a.getD s 0 ∧ 0 ≤ a.getD s 0 ∧ a.getD s 0 ≤ 6144 * (s : Int) ∧ ∃ i, i < n ∧ s.testBit i = true ∧ VV pr q xs s i = a.getD s 0)
theorem row_inv {pr : List (List Int)} (hB : Bd 768 pr) {q P s : Nat} {xs ys : List Int} (hq : q ≤ 8) (hP : P ≤ 256) (h1 : 1 ≤ s) (hs : s < P) (hx : xs.length = P) (hy : ys.length = 256) (H : Inv pr q P (s - 1) xs ys) :
    ∀ n, n ≤ q → RowInv pr q s n xs ys (rowI pr q s xs n) (rowS pr q s ys n)
  | 0, _ => by
    refine ⟨fun t _ => rfl, fun t ht => ?_, .inl ⟨H.zero s (by omega), ?_, fun i hi => by omega⟩⟩
    · show (ys.set s (-1)).getD t 0 = _
      rw [getD_set, if_neg (fun e => ht e.1.symm)]
    · show (ys.set s (-1)).getD s 0 = _
      rw [getD_set, if_pos ⟨rfl, by omega⟩]
  | n + 1, hn => by
    have ih := row_inv hB hq hP h1 hs hx hy H n (by omega)
    rw [rowI_succ, rowS_succ]
    have la := rowI_length pr q s xs n
    have lb := rowS_length pr q s ys n
    generalize rowI pr q s xs n = a at ih la ⊢
    generalize rowS pr q s ys n = b at ih lb ⊢
    obtain ⟨-, hle, hbt⟩ := bits_at (show s < 256 by omega) (show n < 8 by omega)
    unfold updI updS
    cases hb : s.testBit n
    · rw [if_neg (by simp), if_neg (by simp)]
      refine ⟨ih.oa, ih.ob, ?_⟩
      rcases ih.val with ⟨v1, v2, v3⟩ | ⟨v1, v2, v3, i, v4, v5, v6⟩
      · exact .inl ⟨v1, v2, fun i hi => by
          rcases Nat.lt_or_ge i n with h | h
          · exact v3 i h
          · obtain rfl : i = n := by omega
            exact hb⟩
      · exact .inr ⟨v1, v2, v3, i, by omega, v5, v6⟩
    · rw [if_pos rfl, if_pos rfl]
      rw [hb] at hbt
      have hlt : rs s n < s := of_decide_eq_true hbt.symm
      have ea : a.getD (rs s n) 0 = xs.getD (rs s n) 0 := ih.oa _ (by omega)
      have eb : b.getD (rs s n) 0 = xs.getD (rs s n) 0 := by rw [ih.ob _ (by omega), H.same _ (by omega)]
      rw [ea, eb, Int.add_comm (xs.getD (rs s n) 0)]
      have hV : wrap64 (ahdN pr n (rs s n) q + xs.getD (rs s n) 0) = VV pr q xs s n := rfl
      have hV0 : 0 ≤ VV pr q xs s n ∧ VV pr q xs s n ≤ 6144 * (s : Int) := by
        unfold VV
        have g1 := ahd_bound hB n (rs s n) q hq
        have g2 := H.bnd (rs s n)
        rw [Go.IntWalk.wrap64_in _ ⟨by omega, by omega⟩]
        omega
      rw [hV]
      generalize hVV : VV pr q xs s n = V at hV0
      refine ⟨fun t ht => ?_, fun t ht => ?_, .inr ?_⟩
      · rw [getD_set, if_neg (fun e => ht e.1.symm)]; exact ih.oa t ht
      · rw [getD_set, if_neg (fun e => ht e.1.symm)]; exact ih.ob t ht
      · rw [getD_set, if_pos ⟨rfl, by omega⟩, getD_set, if_pos ⟨rfl, by omega⟩]
        rcases ih.val with ⟨v1, v2, v3⟩ | ⟨v1, v2, v3, i, v4, v5, v6⟩
        · rw [v1, v2]
          have e1 : gmx 0 V = V := by unfold gmx; split <;> omega
          have e2 : lmax (-1) V = V := by unfold lmax; split <;> omega
          rw [e1, e2]
          exact ⟨rfl, hV0.1, hV0.2, n, by omega, hb, hVV⟩
        · rw [v1]
          rw [← v6] at v2 v3
          by_cases c : a.getD s 0 < V
          · have e1 : gmx (a.getD s 0) V = V := by unfold gmx; rw [if_pos c]
            have e2 : lmax (a.getD s 0) V = V := by unfold lmax; rw [if_neg (by omega)]
            rw [e1, e2]
            exact ⟨rfl, hV0.1, hV0.2, n, by omega, hb, hVV⟩
          · have e1 : gmx (a.getD s 0) V = a.getD s 0 := by unfold gmx; rw [if_neg c]
            have e2 : lmax (a.getD s 0) V = a.getD s 0 := by unfold lmax; split <;> omega
            rw [e1, e2]
            exact ⟨rfl, by omega, by omega, i, by omega, v5, v6⟩
theorem inv_row {pr : List (List Int)} (hB : Bd 768 pr) {q s : Nat} {xs ys : List Int} (hq : q ≤ 8) (hP : 2 ^ q ≤ 256) (h1 : 1 ≤ s) (hs : s < 2 ^ q) (hx : xs.length = 2 ^ q) (hy : ys.length = 256) (H : Inv pr q (2 ^ q) (s - 1) xs ys) :
    Inv pr q (2 ^ q) s (rowI pr q s xs q) (rowS pr q s ys q) := by
  have R := row_inv hB hq hP h1 hs hx hy H q (Nat.le_refl _)
  generalize rowI pr q s xs q = a at R ⊢
  generalize rowS pr q s ys q = b at R ⊢
  obtain ⟨j, hj, hj8, hjb⟩ := ex_bit (show s < 256 by omega) h1 hs
  have hv : b.getD s 0 = a.getD s 0 ∧ 0 ≤ a.getD s 0 ∧ a.getD s 0 ≤ 6144 * (s : Int) ∧ ∃ i, i < q ∧ s.testBit i = true ∧ VV pr q xs s i = a.getD s 0 := by
    rcases R.val with ⟨_, _, v3⟩ | h
    · rw [v3 j hj] at hjb; cases hjb
    · exact h
  refine ⟨fun t ht => ?_, fun t => ?_, fun t ht => ?_, fun t t1 t2 t3 => ?_⟩
  · by_cases e : t = s
    · subst e; exact hv.1
    · rw [R.oa t e, R.ob t e]; exact H.same t ht
  · by_cases e : t = s
    · subst e; exact ⟨hv.2.1, hv.2.2.1⟩
    · rw [R.oa t e]; exact H.bnd t
  · rw [R.oa t (by omega)]; exact H.zero t (by omega)
  · by_cases e : t = s
    · subst e
      obtain ⟨i, hi, hb, hV⟩ := hv.2.2.2
      obtain ⟨-, hle, hbt⟩ := bits_at (show t < 256 by omega) (show i < 8 by omega)
      rw [hb] at hbt
      have hlt : rs t i < t := of_decide_eq_true hbt.symm
      refine ⟨i, hi, ?_⟩
      unfold cnd
      rw [hb, Bool.true_and, R.oa (rs t i) (by omega), beq_iff_eq]
      exact hV
    · obtain ⟨i, hi, hc⟩ := H.pick t t1 (by omega) t3
      obtain ⟨-, hle, hbt⟩ := bits_at (show t < 256 by omega) (show i < 8 by omega)
      refine ⟨i, hi, ?_⟩
      unfold cnd at hc ⊢
      rw [R.oa (rs t i) (by omega), R.oa t e]
      exact hc
theorem zeros_getD (n s : Nat) : (List.replicate n (0 : Int)).getD s 0 = 0 := by
  by_cases h : s < n
  · simp [List.getD, h]
  · simp [List.getD, h]
theorem inv_tab {pr : List (List Int)} (hB : Bd 768 pr) {q : Nat} (hq : q ≤ 8) (hP : 2 ^ q ≤ 256) : ∀ n, n < 2 ^ q → Inv pr q (2 ^ q) n (tabI pr q n) (tabS pr q n)
  | 0, _ => by
    refine ⟨fun s _ => ?_, fun s => ?_, fun s _ => zeros_getD _ _, fun s h1 h2 => by omega⟩
    · show (List.replicate 256 0).getD s 0 = (List.replicate (2 ^ q) 0).getD s 0
      rw [zeros_getD, zeros_getD]
    · have : (tabI pr q 0).getD s 0 = 0 := zeros_getD _ _
      rw [this]
      omega
  | n + 1, hn => by
    have ih := inv_tab hB hq hP n (by omega)
    rw [tabI_succ, tabS_succ]
    exact inv_row hB hq hP (by omega) hn (tabI_length pr q n) (tabS_length pr q n) ih
theorem cnd_congr {pr : List (List Int)} {q : Nat} {xs ys : List Int} {P s i : Nat} (h : ∀ s, s < P → ys.getD s 0 = xs.getD s 0) (hs : s < P) (hr : rs s i ≤ s) : cnd pr q ys s i = cnd pr q xs s i := by
  unfold cnd
  rw [h s hs, h (rs s i) (by omega)]
theorem rs_le (s i : Nat) : rs s i ≤ s := by
  unfold rs
  split
  · exact Nat.sub_le _ _
  · exact Nat.le_refl _
theorem pick_congr {pr : List (List Int)} {q : Nat} {xs ys : List Int} {P s : Nat} (h : ∀ s, s < P → ys.getD s 0 = xs.getD s 0) (hs : s < P) : pick pr q ys s = pick pr q xs s := by
  unfold pick
  have : cnd pr q ys s = cnd pr q xs s := funext fun i => cnd_congr h hs (rs_le s i)
  rw [this]
theorem ordO_congr {pr : List (List Int)} {q : Nat} {xs ys : List Int} {P : Nat} (h : ∀ s, s < P → ys.getD s 0 = xs.getD s 0) : ∀ f s, s < P → ordO pr q ys f s = ordO pr q xs f s
  | 0, _, _ => rfl
  | f + 1, s, hs => by
    simp only [ordO]
    rw [pick_congr h hs]
    cases pick pr q xs s with
    | none => rfl
    | some i => simp only [ordO_congr h f (rs s i) (Nat.lt_of_le_of_lt (rs_le s i) hs)]
def pc (s : Nat) : Nat := (List.range 8).countP fun j => s.testBit j
theorem pcB : (List.range 256).all (fun s => (List.range 8).all fun i => !(s.testBit i) || decide (pc (rs s i) + 1 = pc s)) = true := by decide +kernel
theorem pc0 : (List.range 256).all (fun s => decide (s = 0) || decide (1 ≤ pc s)) = true := by decide +kernel
theorem pc8 (s : Nat) : pc s ≤ 8 := by
  unfold pc
  have := List.countP_le_length (p := fun j => s.testBit j) (l := List.range 8)
  simpa using this
theorem ordO_some {pr : List (List Int)} {q : Nat} {xs ys : List Int} (hq : q ≤ 8) (hP : 2 ^ q ≤ 256) (H : Inv pr q (2 ^ q) (2 ^ q - 1) xs ys) : ∀ f s, s < 2 ^ q → pc s ≤ f → ∃ l, ordO pr q xs f s = some l
  | 0, s, hs, hf => by
    have h1 := List.all_eq_true.1 pc0 s (List.mem_range.2 (by omega))
    rw [Bool.or_eq_true] at h1
    rcases h1 with h1 | h1
    · exact ⟨[], by simp only [ordO]; rw [if_pos (of_decide_eq_true h1)]⟩
    · have := of_decide_eq_true h1
      omega
  | f + 1, s, hs, hf => by
    by_cases h0 : s = 0
    · exact ⟨[], by simp only [ordO]; rw [if_pos h0]⟩
    · obtain ⟨i, hi, hc⟩ := H.pick s (by omega) (by omega) hs
      cases hp : pick pr q xs s with
      | none =>
        unfold pick at hp
        rw [List.find?_eq_none] at hp
        exact absurd hc (hp i (List.mem_range.2 hi))
      | some j =>
        have hp' := hp
        unfold pick at hp'
        have hcj := List.find?_some hp'
        have hjm := List.mem_range.1 (List.mem_of_find?_eq_some hp')
        have hb : s.testBit j = true := by
          unfold cnd at hcj
          rw [Bool.and_eq_true] at hcj
          exact hcj.1
        have h1 := List.all_eq_true.1 (List.all_eq_true.1 pcB s (List.mem_range.2 (by omega))) j (List.mem_range.2 (by omega))
        rw [hb] at h1
        have h2 : pc (rs s j) + 1 = pc s := by simpa using h1
        obtain ⟨l, hl⟩ := ordO_some hq hP H f (rs s j) (Nat.lt_of_le_of_lt (rs_le s j) hs) (by omega)
        exact ⟨(j : Int) :: l, by simp only [ordO]; rw [if_neg h0, hp]; simp only [hl, Option.map_some]⟩
theorem best_same {pr : List (List Int)} (hB : Bd 768 pr) {q : Nat} (hq1 : 1 ≤ q) (hq : q ≤ 8) : ∃ r : List Int × Int, r.1.length ≤ 8 ∧ bestOS pr q = some r ∧ bestOI pr q = some r := by
  have hP : 2 ^ q ≤ 256 ∧ 2 ≤ 2 ^ q := by
    have : q = 1 ∨ q = 2 ∨ q = 3 ∨ q = 4 ∨ q = 5 ∨ q = 6 ∨ q = 7 ∨ q = 8 := by omega
    rcases this with rfl | rfl | rfl | rfl | rfl | rfl | rfl | rfl <;> decide
  have H := inv_tab hB hq hP.1 (2 ^ q - 1) (by omega)
  obtain ⟨l, hl⟩ := ordO_some hq hP.1 H 8 (2 ^ q - 1) (by omega) (pc8 _)
  refine ⟨(l, (tabI pr q (2 ^ q - 1)).getD (2 ^ q - 1) 0), ordO_len hl, ?_, ?_⟩
  · unfold bestOS
    rw [ordO_congr H.same 8 (2 ^ q - 1) (by omega), hl, H.same (2 ^ q - 1) (by omega)]
    rfl
  · unfold bestOI
    rw [hl]
    rfl
end Best
end Go.Proofs.Ytngpjamojkneeaa.G
