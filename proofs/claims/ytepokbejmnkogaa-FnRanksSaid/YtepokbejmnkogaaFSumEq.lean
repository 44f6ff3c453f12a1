/- The samples by their sums: the reference's choice and the program's insertion sort give the same order. -/
import Derived.Test.YtepokbejmnkogaaSumLib
import Derived.Test.YtepokbejmnkogaaFLibRanks
import Derived.Test.YtepokbejmnkogaaFLibI64
import Derived.Test.YtepokbejmnkogaaFSumFI
import Derived.Test.YtepokbejmnkogaaG2
namespace Go.Proofs.Ytepokbejmnkogaa.G
open Go.RowKit Go.Proofs.YtepokbejmnkogaaW.PrintWords Go.Proofs.YtepokbejmnkogaaW.PrintLast Go.Proofs.YtepokbejmnkogaaW.PrintMore
attribute [local go_sem] max2_int min2_int max_two min_two max_three min_three max_four min_four   -- for this text's walks alone
set_option linter.unusedVariables false
set_option linter.unusedSimpArgs false

open Go.Proofs.Ytepokbejmnkogaa.Wk Go.Proofs.Ytepokbejmnkogaa.Pl Go.Proofs.Ytepokbejmnkogaa.Sum
namespace SumW
def BdL (c : Nat) (xs : List Int) : Prop := ∀ j : Nat, 0 ≤ xs.getD j 0 ∧ xs.getD j 0 ≤ (c : Int)
theorem rk_bd (row : List Int) (a : Nat) : ∀ n, n ≤ 8 → 0 ≤ stF (rstep row a) 1 n ∧ stF (rstep row a) 1 n ≤ 1 + 2 * (n : Int)
  | 0, _ => by rw [stF_zero]; omega
  | n + 1, hn => by
    have ih := rk_bd row a n (by omega)
    rw [stF_succ]
    generalize stF (rstep row a) 1 n = r at ih
    unfold rstep
    split
    · rw [Go.IntWalk.wrap64_in _ ⟨by omega, by omega⟩]; omega
    · split
      · rw [Go.IntWalk.wrap64_in _ ⟨by omega, by omega⟩]; omega
      · omega
theorem rks_bd (s : Nat) (row : List Int) (n : Nat) (hs : s ≤ 8) : BdL 17 (rks s row n) := by
  intro j
  by_cases hj : j < n
  · have e : (rks s row n).getD j 0 = rk s row j := by simp [rks, List.getD, hj]
    rw [e]
    have := rk_bd row j s hs
    unfold rk
    omega
  · have e : (rks s row n).getD j 0 = 0 := by simp [rks, List.getD, hj]
    rw [e]
    omega
theorem BdL.add2 {c : Nat} {x row : List Int} (h : BdL c x) (hr : BdL 17 row) (hc : c ≤ 100000) (b : Nat) : BdL (c + 17) (G.add2 row x b) := by
  intro j
  unfold G.add2
  rw [Sum.getD_set]
  have h1 := h b
  have h2 := hr b
  have h3 := h j
  split
  · rw [Go.IntWalk.wrap64_in _ ⟨by omega, by omega⟩]; omega
  · omega
theorem BdL.st2 {c : Nat} {x row : List Int} (h : BdL c x) (hr : BdL 17 row) : ∀ n, c + 17 * n ≤ 100000 → BdL (c + 17 * n) (stF (G.add2 row) x n)
  | 0, _ => h
  | n + 1, hn => by rw [stF_succ]; exact (BdL.st2 h hr n (by omega)).add2 hr (by omega) n
theorem BdL.mono {c d : Nat} {x : List Int} (h : BdL c x) (hcd : c ≤ d) : BdL d x := fun j => ⟨(h j).1, by have := (h j).2; omega⟩
theorem BdL.st1 {c : Nat} {x : List Int} (h : BdL c x) {s : Nat} (hs : s ≤ 8) (m : List (List Int)) : ∀ n, c + 136 * n ≤ 90000 → BdL (c + 136 * n) (stF (G.add1 s m) x n)
  | 0, _ => h
  | n + 1, hn => by rw [stF_succ]; exact ((BdL.st1 h hs m n (by omega)).st2 (rks_bd s (m.getD n []) s hs) s (by omega)).mono (by omega)
theorem sums_bd (s : Nat) (m : List (List Int)) (hs : s ≤ 8) (hm : m.length ≤ 12) : BdL 1632 (sumsL s m) := by
  have h0 : BdL 0 (List.replicate s 0) := fun j => by
    have : (List.replicate s (0 : Int)).getD j 0 = 0 := by
      by_cases h : j < s <;> simp [List.getD, h]
    rw [this]
    omega
  exact (h0.st1 hs m m.length (by omega)).mono (by omega)
def K (S : List Int) (x : Int) : Int := S.getD x.toNat 0
def lt (S : List Int) (x y : Int) : Prop := K S x < K S y ∨ (K S x = K S y ∧ x < y)
theorem lt_trans {S : List Int} {x y z : Int} (h1 : lt S x y) (h2 : lt S y z) : lt S x z := by
  unfold lt at *
  omega
theorem less_iff {S : List Int} (hS : BdL 1632 S) (x y : Int) : less S x y = decide (K S x < K S y) := by
  have h1 := hS x.toNat
  have h2 := hS y.toNat
  unfold less K
  rw [Go.IntWalk.wrap64_in _ ⟨by omega, by omega⟩]
  exact decide_eq_decide.2 ⟨fun h => by omega, fun h => by omega⟩
theorem sw_at (xs : List Int) (j a : Nat) (hj : j + 1 < xs.length) : (swapL xs (j + 1)).getD a 0 = if a = j then xs.getD (j + 1) 0 else if a = j + 1 then xs.getD j 0 else xs.getD a 0 := by
  unfold swapL
  rw [Sum.getD_set, Sum.getD_set, List.length_set, Nat.add_sub_cancel]
  by_cases h1 : a = j
  · rw [if_pos ⟨h1.symm, by omega⟩, if_pos h1]
  · rw [if_neg (fun e => h1 e.1.symm), if_neg h1]
    by_cases h2 : a = j + 1
    · rw [if_pos ⟨h2.symm, hj⟩, if_pos h2]
    · rw [if_neg (fun e => h2 e.1.symm), if_neg h2]
structure JInv (S : List Int) (q t j : Nat) (m : Int) (xs : List Int) : Prop where
  len : xs.length = q
  srt : ∀ a b, a < b → b ≤ t → a ≠ j → b ≠ j → lt S (xs.getD a 0) (xs.getD b 0)
  cur : xs.getD j 0 = m
  up : ∀ b, j < b → b ≤ t → K S m < K S (xs.getD b 0)
  low : ∀ a, a ≤ t → a ≠ j → xs.getD a 0 < m
  rest : ∀ a, t < a → a < q → xs.getD a 0 = a
  bnd : ∀ a, a < q → ∃ n : Nat, xs.getD a 0 = n ∧ n < q
  sur : ∀ v : Nat, v < q → ∃ a, a < q ∧ xs.getD a 0 = v
structure Srt (S : List Int) (q t : Nat) (xs : List Int) : Prop where
  len : xs.length = q
  srt : ∀ a b, a < b → b ≤ t → lt S (xs.getD a 0) (xs.getD b 0)
  low : ∀ a, a ≤ t → xs.getD a 0 ≤ (t : Int)
  rest : ∀ a, t < a → a < q → xs.getD a 0 = a
  bnd : ∀ a, a < q → ∃ n : Nat, xs.getD a 0 = n ∧ n < q
  sur : ∀ v : Nat, v < q → ∃ a, a < q ∧ xs.getD a 0 = v
theorem jinv {S : List Int} (hS : BdL 1632 S) {q t : Nat} (ht : t < q) : ∀ (j : Nat) (xs : List Int), j ≤ t → JInv S q t j (t : Int) xs → Srt S q t (insJ S j xs)
  | 0, xs, _, H => by
    refine ⟨H.len, fun a b hab hb => ?_, fun a ha => ?_, H.rest, H.bnd, H.sur⟩
    · by_cases h : a = 0
      · subst h
        have := H.up b (by omega) hb
        show lt S (xs.getD 0 0) (xs.getD b 0)
        rw [H.cur]
        exact .inl this
      · exact H.srt a b hab hb h (by omega)
    · by_cases h : a = 0
      · subst h
        show xs.getD 0 0 ≤ _
        rw [H.cur]
        omega
      · have := H.low a ha h
        show xs.getD a 0 ≤ _
        omega
  | j + 1, xs, hj, H => by
    simp only [insJ]
    rw [H.cur, less_iff hS]
    by_cases c : K S (t : Int) < K S (xs.getD j 0)
    · rw [if_pos (decide_eq_true c)]
      have hjl : j + 1 < xs.length := by rw [H.len]; omega
      refine jinv hS ht j _ (by omega) ⟨by rw [swapL_length]; exact H.len, fun a b hab hb ha hbj => ?_, ?_, fun b hb hbt => ?_, fun a ha haj => ?_, fun a ha haq => ?_, fun a ha => ?_, fun v hv => ?_⟩
      · rw [sw_at xs j a hjl, sw_at xs j b hjl, if_neg ha, if_neg hbj]
        by_cases e1 : a = j + 1
        · rw [if_pos e1, if_neg (by omega)]
          exact H.srt j b (by omega) hb (by omega) (by omega)
        · rw [if_neg e1]
          by_cases e2 : b = j + 1
          · rw [if_pos e2]
            exact H.srt a j (by omega) (by omega) e1 (by omega)
          · rw [if_neg e2]
            exact H.srt a b hab hb e1 e2
      · rw [sw_at xs j j hjl, if_pos rfl]
        exact H.cur
      · rw [sw_at xs j b hjl, if_neg (by omega)]
        by_cases e2 : b = j + 1
        · rw [if_pos e2]; exact c
        · rw [if_neg e2]; exact H.up b (by omega) hbt
      · rw [sw_at xs j a hjl, if_neg haj]
        by_cases e2 : a = j + 1
        · rw [if_pos e2]; exact H.low j (by omega) (by omega)
        · rw [if_neg e2]; exact H.low a ha e2
      · rw [sw_at xs j a hjl, if_neg (by omega), if_neg (by omega)]
        exact H.rest a ha haq
      · rw [sw_at xs j a hjl]
        split
        · exact H.bnd (j + 1) (by omega)
        · split
          · exact H.bnd j (by omega)
          · exact H.bnd a ha
      · obtain ⟨a, ha, e⟩ := H.sur v hv
        by_cases e1 : a = j
        · exact ⟨j + 1, by omega, by rw [sw_at xs j (j + 1) hjl, if_neg (by omega), if_pos rfl, ← e1]; exact e⟩
        · by_cases e2 : a = j + 1
          · exact ⟨j, by omega, by rw [sw_at xs j j hjl, if_pos rfl, ← e2]; exact e⟩
          · exact ⟨a, ha, by rw [sw_at xs j a hjl, if_neg e1, if_neg e2]; exact e⟩
    · rw [if_neg (by rw [decide_eq_true_eq]; exact c)]
      have hlow := H.low j (by omega) (by omega)
      have hjm : lt S (xs.getD j 0) (t : Int) := by unfold lt; omega
      refine ⟨H.len, fun a b hab hb => ?_, fun a ha => ?_, H.rest, H.bnd, H.sur⟩
      · by_cases e1 : a = j + 1
        · have h1 := H.up b (by omega) hb
          rw [e1, H.cur]
          exact .inl h1
        · by_cases e2 : b = j + 1
          · rw [e2, H.cur]
            by_cases e3 : a = j
            · rw [e3]; exact hjm
            · exact lt_trans (H.srt a j (by omega) (by omega) e1 (by omega)) hjm
          · exact H.srt a b hab hb e1 e2
      · by_cases e : a = j + 1
        · rw [e, H.cur]; omega
        · have := H.low a ha e
          omega
theorem iota_at {n j : Nat} (h : j < n) : (iota n).getD j 0 = j := by simp [iota, List.getD, h]
theorem srt_all {S : List Int} (hS : BdL 1632 S) {q : Nat} (hq : 1 ≤ q) : ∀ t, t < q → Srt S q t (insI S (iota q) t)
  | 0, _ => by
    refine ⟨iota_length q, fun a b h1 h2 => by omega, fun a ha => ?_, fun a _ ha => iota_at ha, fun a ha => ⟨a, iota_at ha, ha⟩, fun v hv => ⟨v, hv, iota_at hv⟩⟩
    obtain rfl : a = 0 := by omega
    show (iota q).getD 0 0 ≤ _
    rw [iota_at (by omega)]
    omega
  | t + 1, ht => by
    have ih := srt_all hS hq t (by omega)
    rw [insI_succ]
    refine jinv hS ht (t + 1) _ (Nat.le_refl _) ⟨ih.len, fun a b h1 h2 h3 h4 => ih.srt a b h1 (by omega), ih.rest (t + 1) (by omega) ht, fun b h1 h2 => by omega, fun a h1 h2 => ?_, fun a h1 h2 => ih.rest a (by omega) h2, ih.bnd, ih.sur⟩
    have := ih.low a (by omega)
    omega
structure Scan (S : List Int) (out : List Int) (n : Nat) (best : Int) : Prop where
  h : (best = -1 ∧ ∀ x : Nat, x < n → out.contains (x : Int) = true) ∨ (0 ≤ best ∧ best < n ∧ out.contains best = false ∧ ∀ x : Nat, x < n → out.contains (x : Int) = false → (x : Int) = best ∨ lt S best x)
theorem lt_asymm {S : List Int} {x y : Int} (h1 : lt S x y) (h2 : lt S y x) : False := by
  unfold lt at *
  omega
theorem scan {S : List Int} {q : Nat} (hq8 : q ≤ 8) (hl : S.length = q) (out : List Int) (ho : out.length ≤ 8) (z : Int) (r : List Int × Int) (hz : ∀ best, Scan S out q best → best = z) (h : Ev (fun k => spec_SumOrder.l0 k q (out ++ [z]) S) r) :
    ∀ d n best, n + d = q → Scan S out n best → Ev (fun k => spec_SumOrder.l1 k q out S best n) r := by
  intro d
  induction d with
  | zero =>
    intro n best hn hs
    obtain rfl : n = q := by omega
    have e := hz best hs
    subst e
    refine Ev.step (fun k => spec_SumOrder.l1.eq_2 _ _ _ _ _ k) ?_
    simp only [if_neg (show ¬ ((n : Int) < (n : Int)) by omega), if_pos (show out.length < 17592186044416 by omega)]
    exact h
  | succ d ih =>
    intro n best hn hs
    have hw : wrap64 ((n : Int) + 1) = ((n + 1 : Nat) : Int) := w_i (show n < q by omega) (show q ≤ 4611686018427387904 by omega)
    have c1 : (n : Int) < (q : Int) := by omega
    have c2 : (n : Int) < (S.length : Int) := by omega
    have hrd : rd S (n : Int) = K S n := rfl
    refine Ev.step (fun k => spec_SumOrder.l1.eq_2 _ _ _ _ _ k) ?_
    simp only [if_pos c1]
    refine Ev.bind (has_tells out n (by omega)) ?_
    cases hc : out.contains (n : Int)
    · simp only [if_neg Bool.false_ne_true, hw]
      rcases hs.h with ⟨rfl, hx⟩ | ⟨b0, b1, b2, b3⟩
      · simp only [if_pos (show (-1 : Int) < 0 by omega)]
        refine ih (n + 1) n (by omega) ⟨.inr ⟨by omega, by omega, hc, fun x hxn hxo => ?_⟩⟩
        by_cases e : x = n
        · exact .inl (by rw [e])
        · have := hx x (by omega)
          rw [this] at hxo
          cases hxo
      · have hrb : rd S best = K S best := rfl
        simp only [if_neg (show ¬ (best < 0) by omega), if_pos (show (0 : Int) ≤ (n : Int) by omega), if_pos c2, if_pos b0, if_pos (show best < (S.length : Int) by omega), hrd, hrb]
        by_cases c : K S n < K S best
        · simp only [if_pos c]
          refine ih (n + 1) n (by omega) ⟨.inr ⟨by omega, by omega, hc, fun x hxn hxo => ?_⟩⟩
          by_cases e : x = n
          · exact .inl (by rw [e])
          · refine .inr ?_
            rcases b3 x (by omega) hxo with h1 | h1
            · rw [h1]; exact .inl c
            · exact lt_trans (.inl c) h1
        · simp only [if_neg c]
          refine ih (n + 1) best (by omega) ⟨.inr ⟨b0, by omega, b2, fun x hxn hxo => ?_⟩⟩
          by_cases e : x = n
          · refine .inr ?_
            rw [e]
            unfold lt
            omega
          · exact b3 x (by omega) hxo
    · simp only [if_true, hw]
      refine ih (n + 1) best (by omega) ⟨?_⟩
      rcases hs.h with ⟨rfl, hx⟩ | ⟨b0, b1, b2, b3⟩
      · exact .inl ⟨rfl, fun x hxn => by
          by_cases e : x = n
          · rw [e]; exact hc
          · exact hx x (by omega)⟩
      · refine .inr ⟨b0, by omega, b2, fun x hxn hxo => ?_⟩
        by_cases e : x = n
        · rw [e, hc] at hxo; cases hxo
        · exact b3 x (by omega) hxo
theorem mem_take {L : List Int} {q i : Nat} (hL : L.length = q) (hi : i ≤ q) (x : Int) : (L.take i).contains x = true ↔ ∃ a, a < i ∧ L.getD a 0 = x := by
  rw [List.contains_iff_mem, List.mem_iff_getElem]
  constructor
  · rintro ⟨a, ha, e⟩
    rw [List.length_take] at ha
    refine ⟨a, by omega, ?_⟩
    rw [getD_lt (by omega)]
    rw [List.getElem_take] at e
    exact e
  · rintro ⟨a, ha, e⟩
    refine ⟨a, by rw [List.length_take]; omega, ?_⟩
    rw [List.getElem_take]
    rw [getD_lt (by omega)] at e
    exact e
theorem spec_order {S : List Int} (hS : BdL 1632 S) {q : Nat} (hq1 : 1 ≤ q) (hq8 : q ≤ 8) (hl : S.length = q) : Ev (fun k => spec_SumOrder.l0 k q [] S) (insI S (iota q) (q - 1), 0) := by
  have H := srt_all hS hq1 (q - 1) (by omega)
  generalize insI S (iota q) (q - 1) = L at H
  have key : ∀ d i, i + d = q → Ev (fun k => spec_SumOrder.l0 k q (L.take i) S) (L, 0) := by
    intro d
    induction d with
    | zero =>
      intro i hi
      obtain rfl : i = q := by omega
      refine Ev.step (fun k => spec_SumOrder.l0.eq_2 _ _ _ k) ?_
      rw [List.take_of_length_le (by rw [H.len]; omega)]
      simp only [H.len, if_neg (show ¬ ((i : Int) < (i : Int)) by omega)]
      exact Ev.now _
    | succ d ih =>
      intro i hi
      have hiq : i < q := by omega
      have htl : (L.take i).length = i := by rw [List.length_take, H.len]; omega
      refine Ev.step (fun k => spec_SumOrder.l0.eq_2 _ _ _ k) ?_
      simp only [htl, if_pos (show (i : Int) < (q : Int) by omega)]
      refine scan hq8 hl (L.take i) (by omega) (L.getD i 0) (L, 0) (fun best hs => ?_) ?_ q 0 (-1) (by omega) ⟨.inl ⟨rfl, fun x hx => by omega⟩⟩
      · obtain ⟨z, hz, hzq⟩ := H.bnd i hiq
        have hno : (L.take i).contains (z : Int) = false := by
          cases hc : (L.take i).contains (z : Int)
          · rfl
          · obtain ⟨a, ha, e⟩ := (mem_take H.len (by omega) _).1 hc
            have h1 := H.srt a i ha (by omega)
            rw [e, hz] at h1
            exact absurd h1 (fun h => lt_asymm h h)
        rcases hs.h with ⟨_, hx⟩ | ⟨b0, b1, b2, b3⟩
        · rw [hx z hzq] at hno; cases hno
        · rw [hz]
          rcases b3 z hzq hno with h1 | h1
          · exact h1.symm
          · obtain ⟨bn, rfl⟩ := Int.eq_ofNat_of_zero_le b0
            obtain ⟨a, ha, e⟩ := H.sur bn (by omega)
            rcases Nat.lt_trichotomy a i with h2 | h2 | h2
            · have := (mem_take H.len (show i ≤ q by omega) (bn : Int)).2 ⟨a, h2, e⟩
              rw [this] at b2
              cases b2
            · rw [← e, h2, hz]
            · have h3 := H.srt i a h2 (by omega)
              rw [e, hz] at h3
              exact (lt_asymm h1 h3).elim
      · have := ih (i + 1) (by omega)
        rw [List.take_add_one] at this
        have e2 : L[i]?.toList = [L.getD i 0] := by
          have hil : i < L.length := by rw [H.len]; exact hiq
          simp [List.getD, hil]
        rw [e2] at this
        exact this
  have := key q 0 (by omega)
  simpa using this
end SumW
end Go.Proofs.Ytepokbejmnkogaa.G
