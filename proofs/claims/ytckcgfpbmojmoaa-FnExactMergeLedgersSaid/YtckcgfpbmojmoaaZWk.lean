import Derived.WalkKit
import Derived.Below
import Derived.Lib.Hide
import Derived.WalkLawsBesides
import Derived.WalkSpells
import Derived.Deep.LoopGhost
import Derived.Shelf.Abstract
import Derived.Deep.Slices
import Derived.Test.YtckcgfpbmojmoaaZWWords
import Derived.Test.YtckcgfpbmojmoaaZWLast
import Derived.Test.YtckcgfpbmojmoaaZWMore
namespace Go.Proofs.Ytckcgfpbmojmoaa.Wk
open Go.RowKit Go.Proofs.YtckcgfpbmojmoaaW.PrintWords
def inB (x lo hi : Int) : Bool := decide (lo ≤ x) && decide (x ≤ hi)
theorem inB_iff {x lo hi : Int} : inB x lo hi = true ↔ lo ≤ x ∧ x ≤ hi := by unfold inB; simp
theorem inB_yes {x lo hi : Int} (h : lo ≤ x) (h2 : x ≤ hi) : inB x lo hi = true := inB_iff.2 ⟨h, h2⟩
theorem inB_low {x lo hi : Int} (h : ¬ lo ≤ x) : inB x lo hi = false := by unfold inB; simp [h]
theorem inB_high {x lo hi : Int} (h : ¬ x ≤ hi) : inB x lo hi = false := by unfold inB; simp [h]
theorem ret_int {k : IntKind} {a b : Int} (h : a = b) : Ending.returned (.int k a) = .returned (.int k b) := by rw [h]
theorem ret_bool {a b : Bool} (h : a = b) : Ending.returned (.bool a) = .returned (.bool b) := by rw [h]
theorem ret_int2 {k k2 : IntKind} {a b c d : Int} (h : a = b) (h2 : c = d) : Ending.returned (.tuple #[.int k a, .int k2 c]) = .returned (.tuple #[.int k b, .int k2 d]) := by rw [h, h2]
def wkFirst (p : Nat → Bool) (n : Nat) : Int := match (List.range n).find? p with | some j => (j : Int) | none => -1
theorem wkFirst_hit {p : Nat → Bool} {n j : Nat} (hj : j < n) (h : p j = true) (hb : ∀ i, i < j → p i = false) : (j : Int) = wkFirst p n := by
  unfold wkFirst
  have : (List.range n).find? p = some j := by
    rw [List.find?_range_eq_some]
    exact ⟨h, List.mem_range.2 hj, fun i hi => by simp [hb i hi]⟩
  rw [this]
theorem wkFirst_miss {p : Nat → Bool} {n : Nat} (hb : ∀ i, i < n → p i = false) : (-1 : Int) = wkFirst p n := by
  unfold wkFirst
  have : (List.range n).find? p = none := by
    rw [List.find?_eq_none]
    intro x hx
    simp [hb x (List.mem_range.1 hx)]
  rw [this]
theorem wkFirst_nonneg (p : Nat → Bool) (n : Nat) : decide (0 ≤ wkFirst p n) = (List.range n).any p := by
  unfold wkFirst
  cases h : (List.range n).find? p with
  | none =>
    rw [List.find?_eq_none] at h
    have : (List.range n).any p = false := by rw [List.any_eq_false]; exact h
    rw [this]; rfl
  | some j =>
    have h1 := List.find?_some h
    have h2 := List.mem_of_find?_eq_some h
    have : (List.range n).any p = true := List.any_eq_true.2 ⟨j, h2, h1⟩
    rw [this]
    simp
theorem any_not_all {α : Type} (l : List α) (z : α) (q : α → Bool) : (List.range l.length).any (fun j => !(q (l.getD j z))) = !(l.all q) := by
  rw [Bool.eq_iff_iff]
  constructor
  · intro h
    obtain ⟨j, hj, h⟩ := List.any_eq_true.1 h
    have hj := List.mem_range.1 hj
    have : l.all q = false := List.all_eq_false.2 ⟨l[j], List.getElem_mem hj, by simpa [List.getD, hj] using h⟩
    rw [this]; rfl
  · intro h
    have h : l.all q = false := by simpa using h
    obtain ⟨x, hx, h⟩ := List.all_eq_false.1 h
    obtain ⟨j, hj, rfl⟩ := List.getElem_of_mem hx
    exact List.any_eq_true.2 ⟨j, List.mem_range.2 hj, by simpa [List.getD, hj] using h⟩
theorem C_int_cells {k : IntKind} {w : World} {A : Option Addr} {l : List Int} (h : Kd.C (Kd.int k) w A l.length l) : 0 < l.length → ∃ ad, A = some ad ∧ ∀ j, j < l.length → w.cell? (ad.add j) = some (.int k (l.getD j 0)) := by
  intro hn
  obtain ⟨ad, e, hc⟩ := h.2.2 hn
  refine ⟨ad, e, fun j hj => ?_⟩
  obtain ⟨c, _, hK, hcell⟩ := hc j _ (List.getElem?_eq_getElem hj)
  have hK : c = [.int k l[j]] := hK
  subst hK; have := hcell 0 _ rfl
  rw [show (Kd.int k).sz = 1 from rfl, Nat.mul_one, Nat.add_zero] at this
  rw [this]
  simp [List.getD, hj]
theorem C_rows_cells {α : Type} {e : Nat} {d : Kd α} {w : World} {A : Option Addr} {l : List (List α)} (h : Kd.C (Kd.slice e d) w A l.length l) :
    ∃ (AA : Nat → Option Addr) (cc : Nat → Nat), (0 < l.length → ∃ ad, A = some ad ∧ ∀ j, j < l.length → w.cell? (ad.add j) = some (.slice (AA j) (l.getD j []).length (cc j))) ∧
      ∀ j, j < l.length → (l.getD j []).length ≤ cc j ∧ Kd.C d w (AA j) (l.getD j []).length (l.getD j []) := by
  rcases Nat.eq_zero_or_pos l.length with h0 | hn
  · exact ⟨fun _ => none, fun _ => 0, fun h => by omega, fun j hj => by omega⟩
  · obtain ⟨ad, e0, hc⟩ := h.2.2 hn
    have hx : ∀ j, j < l.length → ∃ x : Option Addr × Nat, w.cell? (ad.add j) = some (.slice x.1 (l.getD j []).length x.2) ∧ (l.getD j []).length ≤ x.2 ∧ Kd.C d w x.1 (l.getD j []).length (l.getD j []) := by
      intro j hj
      obtain ⟨c, _, ⟨A', c', rfl, hle, hC⟩, hcell⟩ := hc j _ (List.getElem?_eq_getElem hj)
      have h1 := hcell 0 _ rfl
      rw [show (Kd.slice e d).sz = 1 from rfl, Nat.mul_one, Nat.add_zero] at h1
      have e1 : l.getD j [] = l[j] := by simp [List.getD, hj]
      rw [e1]
      exact ⟨(A', c'), h1, hle, hC⟩
    obtain ⟨f, hf⟩ := Go.Deep.choose_lt hx
    exact ⟨fun j => (f j).1, fun j => (f j).2, fun _ => ⟨ad, e0, fun j hj => (hf j hj).1⟩, fun j hj => (hf j hj).2⟩
theorem C_take {α : Type} {d : Kd α} {w : World} {A : Option Addr} {n m : Nat} {l : List α} (h : Kd.C d w A n l) (hm : m ≤ n) : Kd.C d w A (l.take m).length (l.take m) := by
  have hl : (l.take m).length = m := by rw [List.length_take, h.1]; omega
  refine ⟨rfl, by have := h.2.1; omega, fun hp => ?_⟩
  obtain ⟨ad, e, hc⟩ := h.2.2 (by omega)
  refine ⟨ad, e, fun j p hj => hc j p ?_⟩
  rw [List.getElem?_take] at hj
  split at hj
  · exact hj
  · cases hj
end Go.Proofs.Ytckcgfpbmojmoaa.Wk
