/- Small words for walks by hand; no program in sight. -/
import Derived.WalkKit
import Derived.Below
import Derived.Lib.Hide
import Derived.WalkLawsBesides
import Derived.WalkSpells
import Derived.Deep.LoopGhost
import Derived.Shelf.Abstract
import Derived.Test.YtodlaafabnmbhaaWWords
import Derived.Test.YtodlaafabnmbhaaWLast
import Derived.Test.YtodlaafabnmbhaaWMore
namespace Go.Proofs.Ytodlaafabnmbhaa.Wk
open Go.RowKit Go.Proofs.YtodlaafabnmbhaaW.PrintWords

/-- Is a number in a range? -/
def inB (x lo hi : Int) : Bool := decide (lo ≤ x) && decide (x ≤ hi)
theorem inB_iff {x lo hi : Int} : inB x lo hi = true ↔ lo ≤ x ∧ x ≤ hi := by unfold inB; simp
theorem inB_yes {x lo hi : Int} (h : lo ≤ x) (h2 : x ≤ hi) : inB x lo hi = true := inB_iff.2 ⟨h, h2⟩
theorem inB_low {x lo hi : Int} (h : ¬ lo ≤ x) : inB x lo hi = false := by unfold inB; simp [h]
theorem inB_high {x lo hi : Int} (h : ¬ x ≤ hi) : inB x lo hi = false := by unfold inB; simp [h]
theorem ret_int {k : IntKind} {a b : Int} (h : a = b) : Ending.returned (.int k a) = .returned (.int k b) := by rw [h]
theorem ret_bool {a b : Bool} (h : a = b) : Ending.returned (.bool a) = .returned (.bool b) := by rw [h]
theorem ret_int2 {k k2 : IntKind} {a b c d : Int} (h : a = b) (h2 : c = d) : Ending.returned (.tuple #[.int k a, .int k2 c]) = .returned (.tuple #[.int k b, .int k2 d]) := by rw [h, h2]
/-- The first place below n where p says yes, or -1. -/
def wkFirst (p : Nat → Bool) (n : Nat) : Int := match (List.range n).find? p with | some j => (j : Int) | none => -1
theorem wkFirst_hit {p : Nat → Bool} {n j : Nat} (hj : j < n) (h : p j = true) (hb : ∀ i, i < j → p i = false) : (j : Int) = wkFirst p n := by
  unfold wkFirst
  have : (List.range n).find? p = some j := by
    rw [List.find?_range_eq_some]
    exact ⟨h, List.mem_range.2 hj, fun i hi => by simp [hb i hi]⟩
  rw [this]
theorem wkFirst_miss {p : Nat → Bool} {n : Nat} (hb : ∀ i, i < n → p i = false) : (-1 : Int) = wkFirst p n := by
  unfold wkFirst
  have : (List.range n).find? p = none := by
    rw [List.find?_eq_none]
    intro x hx
    simp [hb x (List.mem_range.1 hx)]
  rw [this]
theorem wkFirst_nonneg (p : Nat → Bool) (n : Nat) : decide (0 ≤ wkFirst p n) = (List.range n).any p := by
  unfold wkFirst
  cases h : (List.range n).find? p with
  | none =>
    rw [List.find?_eq_none] at h
    have : (List.range n).any p = false := by rw [List.any_eq_false]; exact h
    rw [this]; rfl
  | some j =>
    have h1 := List.find?_some h
    have h2 := List.mem_of_find?_eq_some h
    have : (List.range n).any p = true := List.any_eq_true.2 ⟨j, h2, h1⟩
    rw [this]
    simp
theorem any_not_all {α : Type} (l : List α) (z : α) (q : α → Bool) : (List.range l.length).any (fun j => !(q (l.getD j z))) = !(l.all q) := by
  rw [Bool.eq_iff_iff]
  constructor
  · intro h
    obtain ⟨j, hj, h⟩ := List.any_eq_true.1 h
    have hj := List.mem_range.1 hj
    have : l.all q = false := List.all_eq_false.2 ⟨l[j], List.getElem_mem hj, by simpa [List.getD, hj] using h⟩
    rw [this]; rfl
  · intro h
    have h : l.all q = false := by simpa using h
    obtain ⟨x, hx, h⟩ := List.all_eq_false.1 h
    obtain ⟨j, hj, rfl⟩ := List.getElem_of_mem hx
    exact List.any_eq_true.2 ⟨j, List.mem_range.2 hj, by simpa [List.getD, hj] using h⟩
/-- The cells of a row of whole numbers. -/
theorem C_int_cells {k : IntKind} {w : World} {A : Option Addr} {l : List Int} (h : Kd.C (Kd.int k) w A l.length l) : 0 < l.length → ∃ ad, A = some ad ∧ ∀ j, j < l.length → w.cell? (ad.add j) = some (.int k (l.getD j 0)) := by
  intro hn
  obtain ⟨ad, e, hc⟩ := h.2.2 hn
  refine ⟨ad, e, fun j hj => ?_⟩
  obtain ⟨c, _, hK, hcell⟩ := hc j _ (List.getElem?_eq_getElem hj)
  have hK : c = [.int k l[j]] := hK
  subst hK
  have := hcell 0 _ rfl
  rw [show (Kd.int k).sz = 1 from rfl, Nat.mul_one, Nat.add_zero] at this
  rw [this]
  simp [List.getD, hj]
end Go.Proofs.Ytodlaafabnmbhaa.Wk
