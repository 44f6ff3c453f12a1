/- Sets of samples as numbers, the table of the best agreements, the first best order: plain laws, no program in sight. -/
import Derived.WalkKit
import Derived.Test.YtngpjamojkneeaaPl
namespace Go.Proofs.Ytngpjamojkneeaa.Best
open Go.RowKit Go.Proofs.YtngpjamojkneeaaW.PrintWords Go.Proofs.Ytngpjamojkneeaa.Wk Go.Proofs.Ytngpjamojkneeaa.Pl
/-- A set without a sample. -/
def rs (s i : Nat) : Nat := if s.testBit i then s - 2 ^ i else s
theorem bitsB : (List.range 256).all (fun s => (List.range 8).all fun i => ((bits BinOp.and IntKind.i64 ((s : Int) / 2 ^ i) 1 == 1) == s.testBit i) && (bits BinOp.andNot IntKind.i64 (s : Int) (2 ^ i) == ((rs s i : Nat) : Int)) && ((bits BinOp.and IntKind.i64 ((s : Int) / 2 ^ i) 1 == 0) == !(s.testBit i)) && decide (rs s i ≤ s) && (s.testBit i == decide (rs s i < s)) && (!(s.testBit i) || (rs s i == s.xor (2 ^ i)))) = true := by decide +kernel
theorem bits_at {s i : Nat} (hs : s < 256) (hi : i < 8) : ((bits BinOp.and IntKind.i64 ((s : Int) / 2 ^ i) 1 == 1) = s.testBit i ∧ bits BinOp.andNot IntKind.i64 (s : Int) (2 ^ i) = ((rs s i : Nat) : Int) ∧ (bits BinOp.and IntKind.i64 ((s : Int) / 2 ^ i) 1 == 0) = !(s.testBit i)) ∧ rs s i ≤ s ∧ s.testBit i = decide (rs s i < s) := by
  have h1 := List.all_eq_true.1 bitsB s (List.mem_range.2 hs)
  have h2 := List.all_eq_true.1 h1 i (List.mem_range.2 hi)
  simp only [Bool.and_eq_true, beq_iff_eq, decide_eq_true_eq] at h2
  exact ⟨⟨h2.1.1.1.1.1, h2.1.1.1.1.2, h2.1.1.1.2⟩, h2.1.1.2, h2.1.2⟩
theorem pow_i {i : Nat} (h : i < 8) : ∃ p : Nat, (2 : Int) ^ i = (p : Int) ∧ p ≤ 128 := by
  refine ⟨2 ^ i, by simp, ?_⟩
  have : i = 0 ∨ i = 1 ∨ i = 2 ∨ i = 3 ∨ i = 4 ∨ i = 5 ∨ i = 6 ∨ i = 7 := by omega
  rcases this with rfl | rfl | rfl | rfl | rfl | rfl | rfl | rfl <;> decide
theorem wz (s : Nat) (h1 : 2 ≤ s) (h2 : s ≤ 256) : wrap64 (wrap64 (s : Int) - 1) = ((s - 1 : Nat) : Int) := by
  unfold wrap64
  omega
theorem wz2 (s : Nat) (h1 : 2 ≤ s) (h2 : s ≤ 256) : wrap64 ((s : Int) - 1) = ((s - 1 : Nat) : Int) := by
  unfold wrap64
  omega
/-- How much a sample agrees that comes ahead of a set: up to sample n. -/
def ahdN (pr : List (List Int)) (i s n : Nat) : Int := stF (fun acc k => if s.testBit k then wrap64 (acc + (pr.getD i []).getD k 0) else acc) 0 n
/-- Go's max. -/
def gmx (a b : Int) : Int := if a < b then b else a
def updI (pr : List (List Int)) (q s i : Nat) (xs : List Int) : List Int := if s.testBit i then xs.set s (gmx (xs.getD s 0) (wrap64 (ahdN pr i (rs s i) q + xs.getD (rs s i) 0))) else xs
def rowI (pr : List (List Int)) (q s : Nat) (xs : List Int) (n : Nat) : List Int := stF (fun xs i => updI pr q s i xs) xs n
def tabI (pr : List (List Int)) (q n : Nat) : List Int := stF (fun xs t => rowI pr q (t + 1) xs q) (List.replicate (2 ^ q) 0) n
theorem updI_length (pr : List (List Int)) (q s i : Nat) (xs : List Int) : (updI pr q s i xs).length = xs.length := by
  unfold updI
  split <;> simp
theorem rowI_length (pr : List (List Int)) (q s : Nat) (xs : List Int) (n : Nat) : (rowI pr q s xs n).length = xs.length := by
  unfold rowI
  exact stF_inv (fun (y : List Int) => y.length = xs.length) rfl n (fun y i _ hy => by rw [updI_length]; exact hy) n (Nat.le_refl _)
theorem tabI_length (pr : List (List Int)) (q n : Nat) : (tabI pr q n).length = 2 ^ q := by
  unfold tabI
  exact stF_inv (fun (y : List Int) => y.length = 2 ^ q) (by simp) n (fun y i _ hy => by rw [rowI_length]; exact hy) n (Nat.le_refl _)
theorem rowI_succ (pr : List (List Int)) (q s : Nat) (xs : List Int) (n : Nat) : rowI pr q s xs (n + 1) = updI pr q s n (rowI pr q s xs n) := stF_succ _ _ _
theorem tabI_succ (pr : List (List Int)) (q n : Nat) : tabI pr q (n + 1) = rowI pr q (n + 1) (tabI pr q n) q := stF_succ _ _ _
/-- Does a sample come first in a best order of a set? -/
def cnd (pr : List (List Int)) (q : Nat) (xs : List Int) (s i : Nat) : Bool := s.testBit i && (wrap64 (ahdN pr i (rs s i) q + xs.getD (rs s i) 0) == xs.getD s 0)
def pick (pr : List (List Int)) (q : Nat) (xs : List Int) (s : Nat) : Option Nat := (List.range q).find? (cnd pr q xs s)
/-- The first best order of a set. -/
def ordO (pr : List (List Int)) (q : Nat) (xs : List Int) : Nat → Nat → Option (List Int)
  | 0, s => if s = 0 then some [] else none
  | f + 1, s => if s = 0 then some [] else match pick pr q xs s with | none => none | some i => (ordO pr q xs f (rs s i)).map fun l => (i : Int) :: l
def bestOI (pr : List (List Int)) (q : Nat) : Option (List Int × Int) := (ordO pr q (tabI pr q (2 ^ q - 1)) 8 (2 ^ q - 1)).map fun o => (o, (tabI pr q (2 ^ q - 1)).getD (2 ^ q - 1) 0)
theorem ordO_step {pr : List (List Int)} {q : Nat} {xs : List Int} {f s : Nat} {l : List Int} (h : ordO pr q xs f s = some l) (hs : 0 < s) :
    ∃ f' i l', f = f' + 1 ∧ i < q ∧ cnd pr q xs s i = true ∧ (∀ j, j < i → cnd pr q xs s j = false) ∧ ordO pr q xs f' (rs s i) = some l' ∧ l = (i : Int) :: l' := by
  cases f with
  | zero =>
    simp only [ordO] at h
    rw [if_neg (by omega)] at h
    cases h
  | succ f =>
    simp only [ordO] at h
    rw [if_neg (by omega)] at h
    cases hp : pick pr q xs s with
    | none => rw [hp] at h; cases h
    | some i =>
      rw [hp] at h
      obtain ⟨l', hl, e⟩ := Option.map_eq_some_iff.1 h
      unfold pick at hp
      rw [List.find?_range_eq_some] at hp
      exact ⟨f, i, l', rfl, List.mem_range.1 hp.2.1, hp.1, fun j hj => by simpa using hp.2.2 j hj, hl, e.symm⟩
theorem ordO_zero {pr : List (List Int)} {q : Nat} {xs : List Int} {f : Nat} {l : List Int} (h : ordO pr q xs f 0 = some l) : l = [] := by
  cases f <;> simp [ordO] at h <;> exact h
theorem ordO_len {pr : List (List Int)} {q : Nat} {xs : List Int} : ∀ {f s : Nat} {l : List Int}, ordO pr q xs f s = some l → l.length ≤ f
  | 0, s, l, h => by
    simp only [ordO] at h
    split at h
    · cases h; simp
    · cases h
  | f + 1, s, l, h => by
    simp only [ordO] at h
    split at h
    · cases h; simp
    · cases hp : pick pr q xs s with
      | none => rw [hp] at h; cases h
      | some i =>
        rw [hp] at h
        obtain ⟨l', hl, e⟩ := Option.map_eq_some_iff.1 h
        have := ordO_len hl
        rw [← e]
        simp
        omega
/-- The reference model's table: it starts a set at -1. -/
def lmax (a b : Int) : Int := if a > b then a else b
def updS (pr : List (List Int)) (q s i : Nat) (xs : List Int) : List Int := if s.testBit i then xs.set s (lmax (xs.getD s 0) (wrap64 (xs.getD (rs s i) 0 + ahdN pr i (rs s i) q))) else xs
def rowS (pr : List (List Int)) (q s : Nat) (xs : List Int) (n : Nat) : List Int := stF (fun xs i => updS pr q s i xs) (xs.set s (-1)) n
def tabS (pr : List (List Int)) (q n : Nat) : List Int := stF (fun xs t => rowS pr q (t + 1) xs q) (List.replicate 256 0) n
theorem updS_length (pr : List (List Int)) (q s i : Nat) (xs : List Int) : (updS pr q s i xs).length = xs.length := by
  unfold updS
  split <;> simp
theorem rowS_length (pr : List (List Int)) (q s : Nat) (xs : List Int) (n : Nat) : (rowS pr q s xs n).length = xs.length := by
  unfold rowS
  exact stF_inv (fun (y : List Int) => y.length = xs.length) (by simp) n (fun y i _ hy => by rw [updS_length]; exact hy) n (Nat.le_refl _)
theorem tabS_length (pr : List (List Int)) (q n : Nat) : (tabS pr q n).length = 256 := by
  unfold tabS
  exact stF_inv (fun (y : List Int) => y.length = 256) (by rw [List.length_replicate]) n (fun y i _ hy => by rw [rowS_length]; exact hy) n (Nat.le_refl _)
theorem rowS_succ (pr : List (List Int)) (q s : Nat) (xs : List Int) (n : Nat) : rowS pr q s xs (n + 1) = updS pr q s n (rowS pr q s xs n) := stF_succ _ _ _
theorem tabS_succ (pr : List (List Int)) (q n : Nat) : tabS pr q (n + 1) = rowS pr q (n + 1) (tabS pr q n) q := stF_succ _ _ _
def bestOS (pr : List (List Int)) (q : Nat) : Option (List Int × Int) := (ordO pr q (tabS pr q (2 ^ q - 1)) 8 (2 ^ q - 1)).map fun o => (o, (tabS pr q (2 ^ q - 1)).getD (2 ^ q - 1) 0)
theorem u64_i {i : Nat} (h : i < 256) : IntKind.u64.wrap (i : Int) = i := Go.IntWalk.u64_in _ ⟨by omega, by omega⟩
end Go.Proofs.Ytngpjamojkneeaa.Best
