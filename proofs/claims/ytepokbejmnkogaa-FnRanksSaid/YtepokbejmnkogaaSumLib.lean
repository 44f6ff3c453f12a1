/- Insertion sort of samples by their sums: plain words, no program in sight. -/
import Derived.WalkKit
import Derived.Test.YtepokbejmnkogaaPl
namespace Go.Proofs.Ytepokbejmnkogaa.Sum
open Go.RowKit Go.Proofs.YtepokbejmnkogaaW.PrintWords Go.Proofs.Ytepokbejmnkogaa.Wk Go.Proofs.Ytepokbejmnkogaa.Pl
def less (S : List Int) (x y : Int) : Bool := decide (wrap64 (S.getD x.toNat 0 - S.getD y.toNat 0) < 0)
def swapL (xs : List Int) (j : Nat) : List Int := (xs.set j (xs.getD (j - 1) 0)).set (j - 1) (xs.getD j 0)
def insJ (S : List Int) : Nat → List Int → List Int
  | 0, xs => xs
  | j + 1, xs => if less S (xs.getD (j + 1) 0) (xs.getD j 0) = true then insJ S j (swapL xs (j + 1)) else xs
def insI (S : List Int) (xs : List Int) (n : Nat) : List Int := stF (fun xs t => insJ S (t + 1) xs) xs n
theorem swapL_length (xs : List Int) (j : Nat) : (swapL xs j).length = xs.length := by simp [swapL]
theorem insJ_length (S : List Int) : ∀ (j : Nat) (xs : List Int), (insJ S j xs).length = xs.length
  | 0, _ => rfl
  | j + 1, xs => by
    simp only [insJ]
    split
    · rw [insJ_length S j, swapL_length]
    · rfl
theorem insI_length (S : List Int) (xs : List Int) (n : Nat) : (insI S xs n).length = xs.length := by
  unfold insI
  exact stF_inv (fun (y : List Int) => y.length = xs.length) rfl n (fun y i _ hy => by rw [insJ_length]; exact hy) n (Nat.le_refl _)
theorem insI_succ (S : List Int) (xs : List Int) (n : Nat) : insI S xs (n + 1) = insJ S (n + 1) (insI S xs n) := stF_succ _ _ _
/-- All are numbers of samples. -/
def Smp (q : Nat) (xs : List Int) : Prop := ∀ j, j < xs.length → ∃ a : Nat, xs.getD j 0 = a ∧ a < q
theorem getD_set {α : Type} (xs : List α) (i j : Nat) (v d : α) : (xs.set i v).getD j d = if i = j ∧ i < xs.length then v else xs.getD j d := by
  by_cases h : i = j
  · subst h
    by_cases hl : i < xs.length
    · rw [if_pos ⟨rfl, hl⟩]; simp [List.getD, hl]
    · rw [if_neg (fun h => hl h.2), List.set_eq_of_length_le (by omega)]
  · rw [if_neg (fun e => h e.1)]
    simp [List.getD, List.getElem?_set_ne h]
theorem Smp.swap {q : Nat} {xs : List Int} (h : Smp q xs) {j : Nat} (hj : j < xs.length) : Smp q (swapL xs j) := by
  intro k hk
  rw [swapL_length] at hk
  unfold swapL
  rw [getD_set]
  split
  · exact h j hj
  · rw [getD_set]
    split
    · exact h (j - 1) (by omega)
    · exact h k hk
theorem Smp.insJ {q : Nat} (S : List Int) : ∀ (j : Nat) (xs : List Int), Smp q xs → j < xs.length → Smp q (insJ S j xs)
  | 0, _, h, _ => h
  | j + 1, xs, h, hj => by
    simp only [Sum.insJ]
    split
    · exact Smp.insJ S j _ (h.swap hj) (by rw [swapL_length]; omega)
    · exact h
theorem Smp.insI {q : Nat} (S : List Int) {xs : List Int} (h : Smp q xs) : ∀ n, n < xs.length ∨ n = 0 → Smp q (insI S xs n)
  | 0, _ => h
  | n + 1, hn => by
    rw [insI_succ]
    exact Smp.insJ S (n + 1) _ (Smp.insI S h n (by omega)) (by rw [insI_length]; omega)
theorem wj {j : Nat} (h : j < 100) : wrap64 (((j + 1 : Nat) : Int) - 1) = (j : Int) := by
  unfold wrap64
  omega
end Go.Proofs.Ytepokbejmnkogaa.Sum
