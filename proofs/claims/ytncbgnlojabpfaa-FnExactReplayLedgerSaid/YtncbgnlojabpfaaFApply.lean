/- impl.apply and the reference's l06Apply: one closed form. -/
import Derived.Test.YtncbgnlojabpfaaFImplApply
import Derived.Test.YtncbgnlojabpfaaFSpecApply
import Derived.Test.YtncbgnlojabpfaaFEntry
namespace Go.Proofs.Ytncbgnlojabpfaa.G
open Go.RowKit Go.Proofs.YtncbgnlojabpfaaW.PrintWords Go.Proofs.YtncbgnlojabpfaaW.PrintLast Go.Proofs.YtncbgnlojabpfaaW.PrintMore
attribute [local go_sem] max2_int min2_int max_two min_two max_three min_three max_four min_four   -- for this text's walks alone
set_option linter.unusedVariables false
set_option linter.unusedSimpArgs false

open Go.Proofs.Ytncbgnlojabpfaa.Wk Go.Proofs.Ytncbgnlojabpfaa.Pl
namespace Ap
theorem reps1 {α : Type} {R : α → List Value → Prop} {size : Nat} {x : α} {cs : List Value} (h : R x cs) (hl : cs.length = size) : Reps R size [x] cs := ⟨by simp [hl], fun j p hj => by
  rcases j with _ | j
  · simp at hj
    subst hj
    subst hl
    simpa using h
  · simp at hj⟩

/-- What is asked of a call: holdings and an entry that fit. -/
def ok (l : List H) (e1 e2 e3 e4 : Int) : Bool := decide (l.length ≤ 6) && (l.all hB && (inB e1 0 ((l.length : Int) - 1) && (inB e2 0 ((l.length : Int) - 1) && (inB e3 0 4 && (inB e4 1 1000 && (decide (3 ≤ e3) == decide (e1 = e2)))))))
def hasOf (h : H) (e3 : Int) : Int := if e3 = 1 then h.f1 else if e3 = 2 then h.f2 else h.f0
/-- The holdings behind an entry. -/
def res (p0 p1 : Int) (l : List H) (e1 e2 e3 e4 : Int) : List H × Int :=
  if hasOf (l.getD e1.toNat z71) e3 < wrap64 e4 then ([], 4) else if e3 = 0 then moveA 0 l e1.toNat e2.toNat (wrap64 e4) (wrap64 p0) else if e3 = 1 then moveA 1 l e1.toNat e2.toNat (wrap64 e4) (wrap64 p0)
  else if e3 = 2 then moveA 2 l e1.toNat e2.toNat (wrap64 e4) (wrap64 p1) else if e3 = 3 then moveB 1 l e1.toNat (wrap64 e4) else moveB 3 l e1.toNat (wrap64 e4)
theorem ok_says {l : List H} {e1 e2 e3 e4 : Int} (h : ok l e1 e2 e3 e4 = true) :
    l.length ≤ 6 ∧ l.all hB = true ∧ (∃ f : Nat, e1 = f ∧ f < l.length) ∧ (∃ t : Nat, e2 = t ∧ t < l.length) ∧ (1 ≤ e4 ∧ e4 ≤ 1000) ∧ ((e3 = 0 ∨ e3 = 1 ∨ e3 = 2) ∧ e1 ≠ e2 ∨ (e3 = 3 ∨ e3 = 4) ∧ e1 = e2) := by
  unfold ok inB at h
  simp only [Bool.and_eq_true, decide_eq_true_eq, beq_iff_eq] at h
  obtain ⟨h1, h2, ⟨h3, h4⟩, ⟨h5, h6⟩, ⟨h7, h8⟩, ⟨h9, h10⟩, h11⟩ := h
  refine ⟨h1, h2, ⟨e1.toNat, by omega, by omega⟩, ⟨e2.toNat, by omega, by omega⟩, ⟨h9, h10⟩, ?_⟩
  by_cases h12 : 3 ≤ e3
  · right
    refine ⟨by omega, ?_⟩
    rw [decide_eq_true h12] at h11
    exact of_decide_eq_true h11.symm
  · left
    refine ⟨by omega, ?_⟩
    rw [decide_eq_false h12] at h11
    exact of_decide_eq_false h11.symm
theorem held_says {h : H} (b : hB h = true) : (0 ≤ h.f0 ∧ h.f0 ≤ 1000000) ∧ (0 ≤ h.f1 ∧ h.f1 ≤ 1000000) ∧ (0 ≤ h.f2 ∧ h.f2 ≤ 1000000) ∧ (0 ≤ h.f3 ∧ h.f3 ≤ 1000000) := by
  unfold hB heldB inB at b
  simp only [Bool.and_eq_true, decide_eq_true_eq] at b
  omega
theorem all_at {l : List H} (h : l.all hB = true) {i : Nat} (hi : i < l.length) : hB (l.getD i z71) = true := by
  rw [getD_lt hi]
  exact List.all_eq_true.1 h _ (List.getElem_mem hi)
end Ap
open Ap in
def impl_apply.f (a0_0 a0_1 : Int) (l1 : List S71) (a2_0 a2_1 a2_2 a2_3 a2_4 : Int) : Option (List S71 × Int) := if Ap.ok l1 a2_1 a2_2 a2_3 a2_4 = true then some (Ap.res a0_0 a0_1 l1 a2_1 a2_2 a2_3 a2_4) else none
theorem impl_apply.calls (a0_0 a0_1 : Int) (A1 : Option Addr) (c1 : Nat) (l1 : List S71) (a2_0 a2_1 a2_2 a2_3 a2_4 : Int) (r1 : List S71) (r2 : Int) (w : World) (hr1 : Kd.C k71 w A1 l1.length l1) (hc1 : l1.length ≤ c1) (h : impl_apply.f a0_0 a0_1 l1 a2_0 a2_1 a2_2 a2_3 a2_4 = some (r1, r2)) :
    Calls Try.prog 46 #[.agg #[.int .i16 a0_0, .int .i16 a0_1], .slice A1 l1.length c1, .agg #[.int .i16 a2_0, .int .i8 a2_1, .int .i8 a2_2, .int .u8 a2_3, .int .i16 a2_4]] w fun e w' => ∃ v : Value, e = .returned (.tuple #[v, .int .i64 r2]) ∧ Kd.R k71 71 w' w.heap.size (fun _ => True) v r1 ∧ Below w.heap.size w w' := by
  unfold impl_apply.f at h
  by_cases hok : Ap.ok l1 a2_1 a2_2 a2_3 a2_4 = true
  case neg => rw [if_neg hok] at h; cases h
  rw [if_pos hok] at h
  have h := Option.some.inj h
  obtain ⟨hl, -, ⟨f, rfl, hf⟩, ⟨t, rfl, ht⟩, -, hw⟩ := Ap.ok_says hok
  unfold Ap.res at h
  simp only [Int.toNat_natCast] at h
  rcases hw with ⟨rfl | rfl | rfl, hne⟩ | ⟨rfl | rfl, he⟩
  · simp only [Ap.hasOf, Int.reduceEq, ↓reduceIte] at h
    exact Ap.w0 A1 c1 l1 a0_0 a0_1 a2_0 a2_4 f t r1 r2 w hr1 hc1 hl hf ht (by omega) h
  · simp only [Ap.hasOf, Int.reduceEq, ↓reduceIte] at h
    exact Ap.w1 A1 c1 l1 a0_0 a0_1 a2_0 a2_4 f t r1 r2 w hr1 hc1 hl hf ht (by omega) h
  · simp only [Ap.hasOf, Int.reduceEq, ↓reduceIte] at h
    exact Ap.w2 A1 c1 l1 a0_0 a0_1 a2_0 a2_4 f t r1 r2 w hr1 hc1 hl hf ht (by omega) h
  · obtain rfl : f = t := by omega
    simp only [Ap.hasOf, Int.reduceEq, ↓reduceIte] at h
    exact Ap.w3 A1 c1 l1 a0_0 a0_1 a2_0 a2_4 f r1 r2 w hr1 hc1 hl hf h
  · obtain rfl : f = t := by omega
    simp only [Ap.hasOf, Int.reduceEq, ↓reduceIte] at h
    exact Ap.w4 A1 c1 l1 a0_0 a0_1 a2_0 a2_4 f r1 r2 w hr1 hc1 hl hf h
namespace Ap
theorem wr {x : Int} (h0 : -2000000 ≤ x) (h1 : x ≤ 2000000) : wrap64 x = x := w_id (by omega) (by omega)
theorem spec_at (A1 : Option Addr) (c1 : Nat) (l1 : List H) (p0 p1 : Int) (a : Addr) (e1 e2 e3 e4 : Int) (r1 : List H) (r2 : Int) (w : World) (hr1 : Kd.C k71 w A1 l1.length l1) (hc1 : l1.length ≤ c1)
    (x1 : w.cell? ⟨a.block, a.off + 1, none⟩ = some (.int .i8 e1)) (x2 : w.cell? ⟨a.block, a.off + 2, none⟩ = some (.int .i8 e2)) (x3 : w.cell? ⟨a.block, a.off + 3, none⟩ = some (.int .u8 e3)) (x4 : w.cell? ⟨a.block, a.off + 4, none⟩ = some (.int .i16 e4))
    (hok : ok l1 e1 e2 e3 e4 = true) (h : res p0 p1 l1 e1 e2 e3 e4 = (r1, r2)) :
    Calls Try.prog 40 #[.agg #[.int .i16 p0, .int .i16 p1], .slice A1 l1.length c1, .pointer (some a)] w fun e w' => ∃ v : Value, e = .returned (.tuple #[v, .int .i64 r2]) ∧ Kd.R k71 71 w' w.heap.size (fun _ => True) v r1 ∧ Below w.heap.size w w' := by
  obtain ⟨hl, hh, ⟨f, rfl, hf⟩, ⟨t, rfl, ht⟩, hn, hw⟩ := ok_says hok
  unfold res at h
  simp only [Int.toNat_natCast] at h
  have b := held_says (all_at hh hf)
  have hw4 : wrap64 e4 = e4 := wr (by omega) (by omega)
  rcases hw with ⟨rfl | rfl | rfl, hne⟩ | ⟨rfl | rfl, he⟩
  · simp only [hasOf, Int.reduceEq, ↓reduceIte] at h
    by_cases hlt : (l1.getD f z71).f0 < wrap64 e4
    · rw [if_pos hlt] at h
      exact s0 A1 c1 l1 p0 p1 e4 a f t r1 r2 w hr1 hc1 hl hf ht (by omega) x1 x2 x3 x4 (.inl ⟨decide_eq_true (by simp only [take]; rw [wr (by omega) (by omega)]; omega), h⟩)
    · rw [if_neg hlt] at h
      exact s0 A1 c1 l1 p0 p1 e4 a f t r1 r2 w hr1 hc1 hl hf ht (by omega) x1 x2 x3 x4 (.inr (.inr (.inr ⟨decide_eq_false (by simp only [take]; rw [wr (by omega) (by omega)]; omega), decide_eq_false (by simp only [take]; omega), decide_eq_false (by simp only [take]; omega), h⟩)))
  · simp only [hasOf, Int.reduceEq, ↓reduceIte] at h
    by_cases hlt : (l1.getD f z71).f1 < wrap64 e4
    · rw [if_pos hlt] at h
      exact s1 A1 c1 l1 p0 p1 e4 a f t r1 r2 w hr1 hc1 hl hf ht (by omega) x1 x2 x3 x4 (.inr (.inl ⟨decide_eq_false (by simp only [take]; omega), decide_eq_true (by simp only [take]; rw [wr (by omega) (by omega)]; omega), h⟩))
    · rw [if_neg hlt] at h
      exact s1 A1 c1 l1 p0 p1 e4 a f t r1 r2 w hr1 hc1 hl hf ht (by omega) x1 x2 x3 x4 (.inr (.inr (.inr ⟨decide_eq_false (by simp only [take]; omega), decide_eq_false (by simp only [take]; rw [wr (by omega) (by omega)]; omega), decide_eq_false (by simp only [take]; omega), h⟩)))
  · simp only [hasOf, Int.reduceEq, ↓reduceIte] at h
    by_cases hlt : (l1.getD f z71).f2 < wrap64 e4
    · rw [if_pos hlt] at h
      exact s2 A1 c1 l1 p0 p1 e4 a f t r1 r2 w hr1 hc1 hl hf ht (by omega) x1 x2 x3 x4 (.inr (.inr (.inl ⟨decide_eq_false (by simp only [take]; omega), decide_eq_false (by simp only [take]; omega), decide_eq_true (by simp only [take]; rw [wr (by omega) (by omega)]; omega), h⟩)))
    · rw [if_neg hlt] at h
      exact s2 A1 c1 l1 p0 p1 e4 a f t r1 r2 w hr1 hc1 hl hf ht (by omega) x1 x2 x3 x4 (.inr (.inr (.inr ⟨decide_eq_false (by simp only [take]; omega), decide_eq_false (by simp only [take]; omega), decide_eq_false (by simp only [take]; rw [wr (by omega) (by omega)]; omega), h⟩)))
  · obtain rfl : f = t := by omega
    simp only [hasOf, Int.reduceEq, ↓reduceIte] at h
    by_cases hlt : (l1.getD f z71).f0 < wrap64 e4
    · rw [if_pos hlt] at h
      exact s3 A1 c1 l1 p0 p1 e4 a f r1 r2 w hr1 hc1 hl hf x1 x2 x3 x4 (.inl ⟨decide_eq_true (by simp only [take, give]; rw [wr (by omega) (by omega)]; omega), h⟩)
    · rw [if_neg hlt] at h
      exact s3 A1 c1 l1 p0 p1 e4 a f r1 r2 w hr1 hc1 hl hf x1 x2 x3 x4 (.inr (.inr (.inr ⟨decide_eq_false (by simp only [take, give]; rw [wr (by omega) (by omega)]; omega), decide_eq_false (by simp only [take, give]; rw [wr (by omega) (by omega)]; omega), decide_eq_false (by simp only [take, give]; omega), h⟩)))
  · obtain rfl : f = t := by omega
    simp only [hasOf, Int.reduceEq, ↓reduceIte] at h
    by_cases hlt : (l1.getD f z71).f0 < wrap64 e4
    · rw [if_pos hlt] at h
      exact s4 A1 c1 l1 p0 p1 e4 a f r1 r2 w hr1 hc1 hl hf x1 x2 x3 x4 (.inl ⟨decide_eq_true (by simp only [take, give]; rw [wr (by omega) (by omega)]; omega), h⟩)
    · rw [if_neg hlt] at h
      exact s4 A1 c1 l1 p0 p1 e4 a f r1 r2 w hr1 hc1 hl hf x1 x2 x3 x4 (.inr (.inr (.inr ⟨decide_eq_false (by simp only [take, give]; rw [wr (by omega) (by omega)]; omega), decide_eq_false (by simp only [take, give]; omega), decide_eq_false (by simp only [take, give]; omega), h⟩)))
end Ap
end Go.Proofs.Ytncbgnlojabpfaa.G
