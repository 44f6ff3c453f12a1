/- Plain laws on what is read out of a text: its pieces, and numbers in decimal. -/
import Derived.Test.YthkifkfnlmjafaaDoorPl
import Derived.Test.YthkifkfnlmjafaaDoorFTxtR
import Derived.Lib.AtoiTie
import Derived.Lib.ParseIntBTie
import Derived.Lib.SplitLaws
import Derived.Test.YthkifkfnlmjafaaDoorG1
import Derived.Test.YthkifkfnlmjafaaDoorG1
namespace Go.Proofs.YthkifkfnlmjafaaDoor.G
open Go.RowKit Go.Proofs.YthkifkfnlmjafaaDoorW.PrintWords Go.Proofs.YthkifkfnlmjafaaDoorW.PrintLast Go.Proofs.YthkifkfnlmjafaaDoorW.PrintMore
attribute [local go_sem] max2_int min2_int max_two min_two max_three min_three max_four min_four   -- for this text's walks alone
set_option linter.unusedVariables false
set_option linter.unusedSimpArgs false

open Go.Proofs.YthkifkfnlmjafaaDoor.Wk Go.Proofs.YthkifkfnlmjafaaDoor.Pl
namespace Txr
theorem ifp {α : Type} {c : Prop} [Decidable c] (hc : c) {f g : Nat → Option α} {r : α} (h : Ev f r) : Ev (fun k => if c then f k else g k) r := by
  simp only [if_pos hc]
  exact h
theorem ifn {α : Type} {c : Prop} [Decidable c] (hc : ¬ c) {f g : Nat → Option α} {r : α} (h : Ev g r) : Ev (fun k => if c then f k else g k) r := by
  simp only [if_neg hc]
  exact h
/-! ### pieces -/
/-- A text, cut at each such byte. -/
def cut (c : UInt8) : List UInt8 → List (List UInt8)
  | [] => [[]]
  | x :: r => if x = c then [] :: cut c r else (match cut c r with | [] => [[x]] | h :: t => (x :: h) :: t)
theorem cut_ne (c : UInt8) : ∀ l, cut c l ≠ []
  | [] => by simp [cut]
  | x :: r => by
    unfold cut
    by_cases h : x = c
    · rw [if_pos h]; simp
    · rw [if_neg h]
      split <;> simp
theorem cut_free (c : UInt8) : ∀ l, c ∉ l → cut c l = [l]
  | [], _ => rfl
  | x :: r, h => by
    have h1 : x ≠ c := fun e => h (by simp [e])
    have h2 := cut_free c r (fun e => h (List.mem_cons_of_mem _ e))
    unfold cut
    rw [if_neg h1, h2]
theorem cut_hit (c : UInt8) (r : List UInt8) : ∀ a, c ∉ a → cut c (a ++ c :: r) = a :: cut c r
  | [], _ => by
    show cut c (c :: r) = _
    rw [cut, if_pos rfl]
  | x :: a, h => by
    have h1 : x ≠ c := fun e => h (by simp [e])
    have h2 := cut_hit c r a (fun e => h (List.mem_cons_of_mem _ e))
    show cut c (x :: (a ++ c :: r)) = _
    rw [cut, if_neg h1, h2]
theorem cut_len (c : UInt8) : ∀ l, (cut c l).length ≤ l.length + 1
  | [] => by simp [cut]
  | x :: r => by
    have h2 := cut_len c r
    unfold cut
    by_cases h : x = c
    · rw [if_pos h]; simp; omega
    · rw [if_neg h]
      split
      · simp
      · rename_i e
        rw [e] at h2
        simp at h2 ⊢
        omega
theorem cut_short (c : UInt8) : ∀ l, ∀ x ∈ cut c l, x.length ≤ l.length
  | [], x, h => by
    obtain rfl := List.mem_singleton.1 h
    simp
  | y :: r, x, h => by
    have h2 := cut_short c r
    unfold cut at h
    by_cases e : y = c
    · rw [if_pos e] at h
      rcases List.mem_cons.1 h with rfl | h
      · simp
      · have := h2 x h
        simp; omega
    · rw [if_neg e] at h
      split at h
      · obtain rfl := List.mem_singleton.1 h
        simp
      · rename_i a b e2
        rw [e2] at h2
        rcases List.mem_cons.1 h with rfl | h
        · have := h2 a List.mem_cons_self
          simp; omega
        · have := h2 x (List.mem_cons_of_mem _ h)
          simp; omega
/-- The bytes end with that byte: one empty piece more. -/
theorem cut_end (c : UInt8) : ∀ a, cut c (a ++ [c]) = cut c a ++ [[]]
  | [] => by simp [cut]
  | x :: a => by
    have h2 := cut_end c a
    show cut c (x :: (a ++ [c])) = _
    rw [cut]
    by_cases h : x = c
    · rw [if_pos h, h2]
      show _ = cut c (x :: a) ++ _
      rw [cut, if_pos h]
      rfl
    · rw [if_neg h, h2]
      show _ = cut c (x :: a) ++ _
      rw [cut, if_neg h]
      cases e : cut c a with
      | nil => exact absurd e (cut_ne c a)
      | cons y t => rfl
theorem cut_last (c : UInt8) : ∀ l, (cut c l).getLast? = some [] → l = [] ∨ ∃ a, l = a ++ [c]
  | [], _ => Or.inl rfl
  | x :: r, h => by
    have ih := cut_last c r
    unfold cut at h
    by_cases e : x = c
    · rw [if_pos e] at h
      have h2 : (cut c r).getLast? = some [] := by
        cases e2 : cut c r with
        | nil => exact absurd e2 (cut_ne c r)
        | cons y t => rw [e2] at h; simpa using h
      rcases ih h2 with rfl | ⟨a, rfl⟩
      · exact Or.inr ⟨[], by simp [e]⟩
      · exact Or.inr ⟨x :: a, rfl⟩
    · rw [if_neg e] at h
      cases e2 : cut c r with
      | nil => exact absurd e2 (cut_ne c r)
      | cons y t =>
        rw [e2] at h ih
        simp only at h
        cases t with
        | nil => simp at h
        | cons z t =>
          rcases ih (by simpa using h) with rfl | ⟨a, rfl⟩
          · simp [cut] at e2
          · exact Or.inr ⟨x :: a, rfl⟩
theorem split_mem {c : UInt8} : ∀ {l : List UInt8}, c ∈ l → ∃ a r, l = a ++ c :: r ∧ c ∉ a
  | [], h => by simp at h
  | x :: l, h => by
    by_cases e : x = c
    · exact ⟨[], l, by simp [e], by simp⟩
    · have h2 : c ∈ l := by
        rcases List.mem_cons.1 h with rfl | h
        · exact absurd rfl e
        · exact h
      obtain ⟨a, r, rfl, ha⟩ := split_mem h2
      exact ⟨x :: a, r, rfl, fun h => by
        rcases List.mem_cons.1 h with rfl | h
        · exact e rfl
        · exact ha h⟩
theorem index_free {c : UInt8} : ∀ {l : List UInt8}, c ∉ l → Lib.indexByte l c = -1
  | [], _ => rfl
  | x :: l, h => by
    have h1 : (x == c) = false := beq_eq_false_iff_ne.2 fun e => h (by simp [e])
    have h2 := index_free (l := l) (fun e => h (List.mem_cons_of_mem _ e))
    simp [Lib.indexByte, h1, h2]
theorem index_hit {c : UInt8} {r : List UInt8} : ∀ {a : List UInt8}, c ∉ a → Lib.indexByte (a ++ c :: r) c = (a.length : Int)
  | [], _ => by simp [Lib.indexByte]
  | x :: a, h => by
    have h1 : (x == c) = false := beq_eq_false_iff_ne.2 fun e => h (by simp [e])
    have h2 := index_hit (r := r) (a := a) (fun e => h (List.mem_cons_of_mem _ e))
    show Lib.indexByte (x :: (a ++ c :: r)) c = _
    rw [Lib.indexByte, if_neg (by simp [h1]), h2, if_neg (by simp)]
    simp
theorem B_extract (l : List UInt8) (i j : Nat) : (Txt.B l).extract i j = Txt.B ((l.drop i).take (j - i)) := Txt.ext (by
  have h := Lib.extract_toList (Txt.B l) i j
  rw [Lib.toList_data, Txt.B_toList] at h
  rw [h, Txt.B_toList])
theorem indexB_one (l : List UInt8) (c : UInt8) : Lib.indexB (Txt.B l) (Txt.B [c]) = Lib.indexByte l c := by
  rw [Lib.one (Txt.B l) (Txt.B [c]) (by rw [Txt.B_size]; rfl)]
  rw [Txt.B_toList]
  congr 1
  have e : (Txt.B [c])[0]'(by rw [Txt.B_size]; simp) = c := rfl
  rw [e]
  simp
theorem splitF_t (c : UInt8) : ∀ (n : Nat) (l : List UInt8), l.length ≤ n → splitF (Txt.B l) (Txt.B [c]) = (cut c l).map Txt.B := by
  intro n
  induction n with
  | zero =>
    intro l h
    obtain rfl : l = [] := List.length_eq_zero_iff.1 (by omega)
    have h1 : Lib.indexB (Txt.B []) (Txt.B [c]) = -1 := by rw [indexB_one]; rfl
    unfold splitF
    rw [Lib.splitB_miss _ _ _ _ h1]
    rfl
  | succ n ih =>
    intro l h
    by_cases hc : c ∈ l
    · obtain ⟨a, r, rfl, ha⟩ := split_mem hc
      have h1 : Lib.indexB (Txt.B (a ++ c :: r)) (Txt.B [c]) = (a.length : Int) := by rw [indexB_one, index_hit ha]
      have e1 : (Txt.B (a ++ c :: r)).extract (a.length + (Txt.B [c]).size) (Txt.B (a ++ c :: r)).size = Txt.B r := by
        rw [B_extract, Txt.B_size, Txt.B_size]
        congr 1
        simp [List.drop_append]
        rw [List.drop_of_length_le (by omega), List.nil_append, List.take_of_length_le (by omega)]
      have e2 : (Txt.B (a ++ c :: r)).extract 0 (a.length + 0) = Txt.B a := by
        rw [B_extract]
        congr 1
        simp
      have ih := ih r (by simp at h; omega)
      unfold splitF at ih ⊢
      rw [Lib.countB_hit _ _ a.length (by rw [Txt.B_size]; simp) h1, Nat.add_comm 1, Lib.splitB_hit _ _ _ _ a.length h1, e1, e2, ih, cut_hit c r a ha]
      rfl
    · have h1 : Lib.indexB (Txt.B l) (Txt.B [c]) = -1 := by rw [indexB_one, index_free hc]
      unfold splitF
      rw [Lib.splitB_miss _ _ _ _ h1, cut_free c l hc]
      rfl
theorem split_t (c : UInt8) (l : List UInt8) (h : l.length ≤ 1048576) : strings_Split.f (Txt.B l) (Txt.B [c]) = some ((cut c l).map Txt.B) := by
  unfold strings_Split.f
  rw [if_pos ⟨by rw [Txt.B_size]; omega, by rw [Txt.B_size]; simp⟩, splitF_t c l.length l (Nat.le_refl _)]
theorem bt_B (l : List UInt8) (i : Nat) (h : i < l.length) : bt (Txt.B l) (i : Int) = ((l[i].toNat : Nat) : Int) := by
  have h2 : (i : Int).toNat < (Txt.B l).size := by rw [Txt.B_size]; omega
  rw [← bt_at (Txt.B l) i h2]
  rfl
theorem lsplit_t (c : UInt8) (l : List UInt8) (hl : l.length ≤ 1048576) : Ev (fun k => spec_l01Split.f k (Txt.B l) ((c.toNat : Nat) : Int)) ((cut c l).map Txt.B) := by
  have key : ∀ d (i b : Nat) (out : List ByteArray), i + d = l.length → b ≤ i → out.length ≤ b → c ∉ (l.drop b).take (i - b) →
      Ev (fun k => spec_l01Split.l0 k (Txt.B l) ((c.toNat : Nat) : Int) out (b : Int) (i : Int)) (out ++ (cut c (l.drop b)).map Txt.B) := by
    intro d
    induction d with
    | zero =>
      intro i b out hi hb ho hf
      obtain rfl : i = l.length := by omega
      refine Ev.step (fun k => spec_l01Split.l0.eq_2 _ _ _ _ _ k) ?_
      refine ifn (by rw [Txt.B_size]; omega) (ifp (by omega) (ifp (by rw [Txt.B_size]; omega) (ifp (by omega) ?_)))
      have e : ∀ x : Nat, (x : Int).toNat = x := fun x => by omega
      have hf2 : c ∉ l.drop b := by
        rwa [List.take_of_length_le (by simp)] at hf
      rw [cut_free c _ hf2, e, Txt.B_size, B_extract, List.take_of_length_le (by simp)]
      exact Ev.now _
    | succ d ih =>
      intro i b out hi hb ho hf
      have hi1 : i < l.length := by omega
      refine Ev.step (fun k => spec_l01Split.l0.eq_2 _ _ _ _ _ k) ?_
      refine ifp (by rw [Txt.B_size]; omega) (ifp (by omega) ?_)
      rw [bt_B l i hi1, w_i hi1 (by omega)]
      have e : ∀ x : Nat, (x : Int).toNat = x := fun x => by omega
      have ed : l.drop b = (l.drop b).take (i - b) ++ l[i] :: l.drop (i + 1) := by
        have h1 := (List.take_append_drop (i - b) (l.drop b)).symm
        rwa [List.drop_drop, show b + (i - b) = i by omega, List.drop_eq_getElem_cons hi1] at h1
      by_cases hc : l[i] = c
      · refine ifp (by rw [hc]) (ifp (by omega) (ifp (by omega) (ifp (by rw [Txt.B_size]; omega) (ifp (by omega) ?_))))
        rw [hc] at ed
        have ih := ih (i + 1) (i + 1) (out ++ [(Txt.B l).extract b i]) (by omega) (by omega) (by simp; omega) (by simp)
        rw [e, e]
        have e3 : out ++ (cut c (l.drop b)).map Txt.B = (out ++ [(Txt.B l).extract b i]) ++ (cut c (l.drop (i + 1))).map Txt.B := by
          rw [B_extract]
          generalize (l.drop b).take (i - b) = p at ed hf ⊢
          rw [ed, cut_hit c _ _ hf]
          simp
        rw [e3]
        exact ih
      · refine ifn (fun h => hc (UInt8.toNat_inj.1 (by omega))) ?_
        refine ih (i + 1) b out (by omega) (by omega) ho ?_
        rw [show i + 1 - b = (i - b) + 1 by omega, List.take_add_one]
        intro h
        rcases List.mem_append.1 h with h | h
        · exact hf h
        · rw [List.getElem?_drop, show b + (i - b) = i by omega, List.getElem?_eq_getElem hi1] at h
          simp at h
          exact hc h.symm
  have := key l.length 0 0 [] (by omega) (by omega) (by simp) (by simp)
  unfold spec_l01Split.f
  simpa using this
/-! ### numbers -/
/-- The number that a text tells in decimal: at most nine digits, no digit too many. -/
def num (l : List UInt8) : Option Nat := if l = [] ∨ 9 < l.length ∨ (l.head? = some 48 ∧ 1 < l.length) then none else Lib.decFrom 0 l
theorem u8 (b : UInt8) (d : Nat) (h : b.toNat = 48 + d) (hd : d < 10) : b = UInt8.ofNat (48 + d) := by
  apply UInt8.toNat_inj.1
  rw [h]
  simp
  omega
theorem decFrom_snoc (b : UInt8) : ∀ (a : List UInt8) (n : Nat), Lib.decFrom n (a ++ [b]) = (Lib.decFrom n a).bind fun m => (Lib.digitVal b).map fun d => m * 10 + d
  | [], n => by
    show Lib.decFrom n [b] = _
    unfold Lib.decFrom
    cases Lib.digitVal b <;> rfl
  | x :: a, n => by
    show Lib.decFrom n (x :: (a ++ [b])) = _
    unfold Lib.decFrom
    cases Lib.digitVal x with
    | none => rfl
    | some d => exact decFrom_snoc b a (n * 10 + d)
theorem digit_says {b : UInt8} {d : Nat} (h : Lib.digitVal b = some d) : d < 10 ∧ b.toNat = 48 + d := by
  unfold Lib.digitVal at h
  by_cases c : 48 ≤ b.toNat ∧ b.toNat ≤ 57
  · rw [if_pos c] at h
    have := Option.some.inj h
    omega
  · rw [if_neg c] at h
    cases h
theorem dec_small {n : Nat} (h : n < 10) : Lib.decDigits n = [UInt8.ofNat (48 + n)] := by rw [Lib.decDigits, dif_pos h]
theorem dec_big {n : Nat} (h : ¬ n < 10) : Lib.decDigits n = Lib.decDigits (n / 10) ++ [UInt8.ofNat (48 + n % 10)] := by rw [Lib.decDigits, dif_neg h]
/-- What tells a number with no digit too many is the number in decimal. -/
theorem canon : ∀ (n : Nat) (l : List UInt8) (v : Nat), l.length ≤ n → l ≠ [] → (l.head? = some 48 → l.length ≤ 1) → Lib.decFrom 0 l = some v → Lib.decDigits v = l := by
  intro n
  induction n with
  | zero => intro l v h h1; exact absurd (List.length_eq_zero_iff.1 (by omega)) h1
  | succ n ih =>
    intro l v h h1 h2 h3
    obtain ⟨a, b, rfl⟩ : ∃ a b, l = a ++ [b] := ⟨l.dropLast, l.getLast h1, (List.dropLast_concat_getLast h1).symm⟩
    rw [decFrom_snoc] at h3
    cases e : Lib.decFrom 0 a with
    | none => rw [e] at h3; cases h3
    | some m =>
      rw [e] at h3
      simp only [Option.bind_some] at h3
      cases eb : Lib.digitVal b with
      | none => rw [eb] at h3; cases h3
      | some d =>
        rw [eb] at h3
        obtain rfl : m * 10 + d = v := Option.some.inj h3
        obtain ⟨hd, hb⟩ := digit_says eb
        by_cases ha : a = []
        · subst ha
          obtain rfl : 0 = m := Option.some.inj e
          rw [dec_small (by omega), u8 b d hb hd]
          simp
        · have hh : a.head? ≠ some 48 := fun hh => by
            have : (a ++ [b]).head? = some 48 := by
              cases a with
              | nil => exact absurd rfl ha
              | cons x t => simpa using hh
            have h4 := h2 this
            simp at h4
            exact ha h4
          have hm := ih a m (by simp at h; omega) ha (fun hh2 => absurd hh2 hh) e
          have hm0 : m ≠ 0 := fun e0 => by
            subst e0
            rw [dec_small (by omega)] at hm
            rw [← hm] at hh
            exact hh rfl
          rw [dec_big (by omega), show (m * 10 + d) / 10 = m by omega, show (m * 10 + d) % 10 = d by omega, hm, u8 b d hb hd]
theorem dec_len : ∀ (k n : Nat), n < 10 ^ (k + 1) → (Lib.decDigits n).length ≤ k + 1
  | k, n, h => by
    by_cases c : n < 10
    · rw [dec_small c]; simp
    · rw [dec_big c]
      cases k with
      | zero => simp at h; omega
      | succ k =>
        have := dec_len k (n / 10) (by rw [Nat.pow_succ] at h; omega)
        simp
        omega
theorem digit_dec (d : Nat) (h : d < 10) : Lib.digitVal (UInt8.ofNat (48 + d)) = some d := by
  have : ∀ d : Fin 10, Lib.digitVal (UInt8.ofNat (48 + d.1)) = some d.1 := by decide
  exact this ⟨d, h⟩
theorem dec_num : ∀ (n v : Nat), v ≤ n → Lib.decDigits v ≠ [] ∧ Lib.decFrom 0 (Lib.decDigits v) = some v ∧ ((Lib.decDigits v).head? = some 48 → v = 0) := by
  intro n
  induction n with
  | zero =>
    intro v h
    obtain rfl : v = 0 := by omega
    rw [dec_small (by omega)]
    exact ⟨by simp, by decide, fun _ => rfl⟩
  | succ n ih =>
    intro v h
    by_cases c : v < 10
    · rw [dec_small c]
      refine ⟨by simp, ?_, ?_⟩
      · rw [Lib.decFrom, digit_dec v c]
        show Lib.decFrom (0 * 10 + v) [] = _
        rw [Lib.decFrom]
        simp
      · intro e
        have e := Option.some.inj e
        have := congrArg UInt8.toNat e
        simp at this
        omega
    · obtain ⟨h1, h2, h3⟩ := ih (v / 10) (by omega)
      rw [dec_big c]
      refine ⟨by simp, ?_, ?_⟩
      · rw [decFrom_snoc, h2, digit_dec (v % 10) (by omega)]
        simp
        omega
      · intro e
        have : (Lib.decDigits (v / 10)).head? = some 48 := by
          cases e2 : Lib.decDigits (v / 10) with
          | nil => exact absurd e2 h1
          | cons x t => rw [e2] at e; simpa using e
        have := h3 this
        omega
theorem num_dec {v : Nat} (h : v < 1000000000) : num (Lib.decDigits v) = some v := by
  obtain ⟨h1, h2, h3⟩ := dec_num v v (Nat.le_refl _)
  have h4 := dec_len 8 v (by omega)
  unfold num
  rw [if_neg, h2]
  rintro (e | e | ⟨e, e2⟩)
  · exact h1 e
  · omega
  · obtain rfl := h3 e
    rw [dec_small (by omega)] at e2
    simp at e2
theorem num_says {l : List UInt8} {v : Nat} (h : num l = some v) : Lib.decDigits v = l ∧ v < 1000000000 ∧ l.length ≤ 9 ∧ l ≠ [] ∧ Lib.decFrom 0 l = some v := by
  unfold num at h
  by_cases c : l = [] ∨ 9 < l.length ∨ (l.head? = some 48 ∧ 1 < l.length)
  · rw [if_pos c] at h
    cases h
  · rw [if_neg c] at h
    have c1 : l ≠ [] := fun e => c (Or.inl e)
    have c2 : l.length ≤ 9 := by
      apply Nat.le_of_not_lt
      exact fun e => c (Or.inr (Or.inl e))
    have hlt := Lib.decFrom_lt l 0 v h
    have hp : 10 ^ l.length ≤ 10 ^ 9 := Nat.pow_le_pow_right (by omega) c2
    refine ⟨canon l.length l v (Nat.le_refl _) c1 (fun e => ?_) h, by omega, c2, c1, h⟩
    apply Nat.le_of_not_lt
    exact fun e2 => c (Or.inr (Or.inr ⟨e, e2⟩))
theorem parse_num {l : List UInt8} {v : Nat} (h : num l = some v) : parseF (Txt.B l) = ((v : Int), true) := by
  obtain ⟨_, _, h3, h4, h5⟩ := num_says h
  unfold parseF
  rw [Txt.B_toList, Lib.parseIntB_64, Lib.atoiAll_short l (by omega)]
  cases l with
  | nil => exact absurd rfl h4
  | cons b r =>
    have hb : ∃ d, Lib.digitVal b = some d := Lib.digit_of_decFrom (b :: r) 0 v h5 0 b rfl
    obtain ⟨d, hd⟩ := hb
    obtain ⟨hd1, hd2⟩ := digit_says hd
    have n1 : ¬ b = 45 := fun e => by rw [e] at hd2; simp at hd2; omega
    have n2 : ¬ b = 43 := fun e => by rw [e] at hd2; simp at hd2; omega
    have e : Lib.atoi (b :: r) = some (v : Int) := by
      show (if (b == 45) = true then (Lib.decNat r).map fun (m : Nat) => -(m : Int) else if (b == 43) = true then (Lib.decNat r).map fun (m : Nat) => (m : Int) else (Lib.decNat (b :: r)).map fun (m : Nat) => (m : Int)) = _
      unfold Lib.decNat
      rw [if_neg (by simpa using n1), if_neg (by simpa using n2), if_neg (by simp), h5]
      rfl
    rw [e]
    rfl
/-- What impl.readDecimal answers. -/
theorem readDec_t (l : List UInt8) (lo hi : Int) (h0 : 0 ≤ lo) (h1 : hi < 1000000000) : ∃ x : Int × Bool, readDecF (Txt.B l) lo hi = x ∧ ((x.2 = true ∧ ∃ v : Nat, num l = some v ∧ x.1 = v ∧ lo ≤ (v : Int) ∧ (v : Int) ≤ hi) ∨ (x.2 = false ∧ ∀ v : Nat, num l = some v → ¬ (lo ≤ (v : Int) ∧ (v : Int) ≤ hi))) := by
  refine ⟨_, rfl, ?_⟩
  cases e : (readDecF (Txt.B l) lo hi).2 with
  | true =>
    refine Or.inl ⟨rfl, ?_⟩
    unfold readDecF at e ⊢
    simp only [Bool.and_eq_true, beq_iff_eq] at e
    obtain ⟨e1, e2, e3⟩ := e
    have e4 := inB_iff.1 e3
    generalize (parseF (Txt.B l)).1 = p at *
    rw [Lib.toList_data, Txt.B_toList] at e2
    unfold Lib.itoa at e2
    rw [if_neg (by omega)] at e2
    refine ⟨p.toNat, ?_, by omega, by omega, by omega⟩
    rw [← e2]
    exact num_dec (by omega)
  | false =>
    refine Or.inr ⟨rfl, fun v hv hr => ?_⟩
    have hp := parse_num hv
    obtain ⟨h2, _⟩ := num_says hv
    unfold readDecF at e
    rw [hp] at e
    have : (Lib.itoa (v : Int) == (Txt.B l).toList) = true := by
      rw [beq_iff_eq, Lib.toList_data, Txt.B_toList]
      unfold Lib.itoa
      rw [if_neg (by omega), Int.toNat_natCast]
      exact h2
    simp only [this, inB_iff.2 hr] at e
    cases e
def numR (l : List UInt8) : Int × Bool := match num l with | some v => ((v : Int), true) | none => (0, false)
theorem number_t (l : List UInt8) (hl : l.length ≤ 1048576) : Ev (fun k => spec_l01Number.f k (Txt.B l)) (numR l) := by
  have bad : Ev (fun k => spec_l01Number.j0 k (Txt.B l) true) (0, false) := by
    refine Ev.step (fun k => spec_l01Number.j0.eq_2 _ _ k) ?_
    exact ifp rfl (Ev.now _)
  have hz : (Txt.B l).toList = l := by rw [Lib.toList_data, Txt.B_toList]
  unfold spec_l01Number.f
  by_cases c1 : l = []
  · refine ifp (by rw [hz]; exact c1) ?_
    have : numR l = (0, false) := by unfold numR num; rw [if_pos (Or.inl c1)]
    rw [this]
    exact bad
  · refine ifn (by rw [hz]; exact c1) ?_
    by_cases c2 : 9 < l.length
    · refine ifp (by rw [Txt.B_size]; omega) ?_
      have : numR l = (0, false) := by unfold numR num; rw [if_pos (Or.inr (Or.inl c2))]
      rw [this]
      exact bad
    · have hpos : 0 < l.length := List.length_pos_iff.2 c1
      refine ifn (by rw [Txt.B_size]; omega) (ifp (by rw [Txt.B_size]; omega) ?_)
      have good : ¬ (l.head? = some 48 ∧ 1 < l.length) → Ev (fun k => spec_l01Number.j0 k (Txt.B l) false) (numR l) := by
        intro c3
        refine Ev.step (fun k => spec_l01Number.j0.eq_2 _ _ k) ?_
        refine ifn (by simp) ?_
        have e : numR l = (match Lib.decFrom 0 l with | some v => ((v : Int), true) | none => (0, false)) := by
          unfold numR num
          rw [if_neg]
          rintro (e | e | e)
          · exact c1 e
          · exact c2 e
          · exact c3 e
        rw [e]
        have key : ∀ d (i acc : Nat), i + d = l.length → acc < 10 ^ i → Ev (fun k => spec_l01Number.l0 k (Txt.B l) (acc : Int) (i : Int)) (match Lib.decFrom acc (l.drop i) with | some v => ((v : Int), true) | none => (0, false)) := by
          intro d
          induction d with
          | zero =>
            intro i acc hi ha
            refine Ev.step (fun k => spec_l01Number.l0.eq_2 _ _ _ k) ?_
            refine ifn (by rw [Txt.B_size]; omega) ?_
            rw [List.drop_of_length_le (by omega)]
            exact Ev.now _
          | succ d ih =>
            intro i acc hi ha
            have hi1 : i < l.length := by omega
            refine Ev.step (fun k => spec_l01Number.l0.eq_2 _ _ _ k) ?_
            refine ifp (by rw [Txt.B_size]; omega) (ifp (by omega) ?_)
            rw [bt_B l i hi1, List.drop_eq_getElem_cons hi1, Lib.decFrom, w_i hi1 (by omega)]
            generalize l[i] = b
            by_cases d1 : b.toNat < 48
            · refine ifp (by omega) ?_
              have : Lib.digitVal b = none := by unfold Lib.digitVal; rw [if_neg (by omega)]
              rw [this]
              exact Ev.now _
            · refine ifn (by omega) ?_
              by_cases d2 : 57 < b.toNat
              · refine ifp (by omega) ?_
                have : Lib.digitVal b = none := by unfold Lib.digitVal; rw [if_neg (by omega)]
                rw [this]
                exact Ev.now _
              · refine ifn (by omega) ?_
                have : Lib.digitVal b = some (b.toNat - 48) := by unfold Lib.digitVal; rw [if_pos (by omega)]
                rw [this]
                have hp : 10 ^ i ≤ 10 ^ 8 := Nat.pow_le_pow_right (by omega) (by omega)
                have ew : wrap64 ((wrap64 (10 * (acc : Int))) + ((((b.toNat : Nat) : Int) - 48) % 256)) = ((acc * 10 + (b.toNat - 48) : Nat) : Int) := by
                  rw [w_id (x := 10 * (acc : Int)) (by omega) (by omega), w_id (by omega) (by omega)]
                  omega
                rw [ew]
                exact ih (i + 1) _ (by omega) (by rw [Nat.pow_succ]; omega)
        have := key l.length 0 0 (by omega) (by simp)
        simpa using this
      have e0 : bt (Txt.B l) 0 = ((l[0].toNat : Nat) : Int) := bt_B l 0 hpos
      rw [e0]
      have hh : l.head? = some l[0] := by
        cases l with
        | nil => exact absurd rfl c1
        | cons x t => rfl
      by_cases c3 : l[0] = 48
      · refine ifp (by rw [c3]; rfl) ?_
        by_cases c4 : 1 < l.length
        · have : numR l = (0, false) := by unfold numR num; rw [if_pos (Or.inr (Or.inr ⟨by rw [hh, c3], c4⟩))]
          rw [this, decide_eq_true (by rw [Txt.B_size]; omega)]
          exact bad
        · rw [decide_eq_false (by rw [Txt.B_size]; omega)]
          exact good fun h => c4 h.2
      · refine ifn (fun h => c3 (UInt8.toNat_inj.1 (by simp; omega))) ?_
        exact good fun h => c3 (Option.some.inj (hh.symm.trans h.1))
end Txr
end Go.Proofs.YthkifkfnlmjafaaDoor.G
