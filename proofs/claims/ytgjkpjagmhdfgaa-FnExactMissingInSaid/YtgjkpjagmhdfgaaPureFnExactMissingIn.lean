/- FnExactMissingIn: the program's MissingIn answers as the reference's does, for all two ledgers that the law lets in; its result shares no memory. No condition. -/
import Derived.Test.YtgjkpjagmhdfgaaSayFnExactMissingIn
import Derived.Test.YtgjkpjagmhdfgaaFHpEntry
import Derived.Test.YtgjkpjagmhdfgaaFLibMiss
namespace Go.Proofs.Ytgjkpjagmhdfgaa.PureFnExactMissingIn
open Go.RowKit Go.Proofs.YtgjkpjagmhdfgaaW.PrintWords Go.Proofs.Ytgjkpjagmhdfgaa.G Go.Proofs.Ytgjkpjagmhdfgaa.SayFnExactMissingIn Go.Proofs.Ytgjkpjagmhdfgaa.Wk Go.Proofs.Ytgjkpjagmhdfgaa.Pl Miss
set_option linter.unusedSimpArgs false
set_option linter.unusedVariables false
def out (l0 l1 : List E) : List E × Int := if l0.length > 80 then ([], 3) else if l1.length > 80 then ([], 3) else (go l0 l1 [], 0)
theorem go_len : ∀ (l0 l1 o : List E), (go l0 l1 o).length ≤ o.length + l0.length
  | [], _, o => by simp [go]
  | x :: r, l1, o => by
    rw [go]
    split
    · have := go_len r (l1.erase x) o
      simp
      omega
    · have := go_len r l1 (o ++ [x])
      simp at this ⊢
      omega
theorem ok_of (l : List S65) (h : ∀ x ∈ l, Ok65 x) : (l.map cEntry).all okE = true := by
  rw [List.all_eq_true]
  intro x hx
  obtain ⟨y, hy, rfl⟩ := List.mem_map.1 hx
  have := h y hy
  unfold okE
  simp only [Bool.and_eq_true, inB_iff]
  exact ⟨⟨⟨⟨this.1, this.2.1⟩, this.2.2.1⟩, this.2.2.2.1⟩, this.2.2.2.2⟩
theorem tells (l0 l1 : List E) (h0 : l0.length ≤ 1048576) (h1 : l1.length ≤ 1048576) (b0 : l0.all okE = true) (b1 : l1.all okE = true) :
    Ev (fun k => spec_MissingIn.f k l0 l1) (out l0 l1) ∧ impl_MissingIn.f l0 l1 = some (out l0 l1) ∧ (out l0 l1).1.length ≤ 80 := by
  unfold spec_MissingIn.f impl_MissingIn.f out impl_missing.f
  by_cases c0 : l0.length > 80
  · simp only [if_pos (show (l0.length : Int) > 80 by omega), if_pos c0]
    exact ⟨Ev.now _, trivial, by simp⟩
  · simp only [if_neg (show ¬ (l0.length : Int) > 80 by omega), if_neg c0]
    by_cases c1 : l1.length > 80
    · simp only [if_pos (show (l1.length : Int) > 80 by omega), if_pos c1]
      exact ⟨Ev.now _, trivial, by simp⟩
    · simp only [if_neg (show ¬ (l1.length : Int) > 80 by omega), if_neg c1, b0, b1, Bool.and_self, true_and, if_pos (show l0.length ≤ 1048576 ∧ l1.length ≤ 1048576 from ⟨h0, h1⟩), Option.bind_some]
      refine ⟨Ev.bind (spec_tells l0 l1 h0 h1) (Ev.now _), ?_⟩
      have := go_len l0 l1 []
      simp at this
      omega
theorem sz_tells (l : List S65) (hl : l.length * 8 ≤ 140737488351232) (n : Int) (h0 : 0 ≤ n) (h1 : n ≤ 1048576) : laws_szEntryS.f l n = some (if n - (l.length : Int) < 0 then -1 else n - (l.length : Int)) := by
  unfold laws_szEntryS.f
  rw [w_id (x := n - (l.length : Int)) (by omega) (by omega)]
  split <;> rfl
theorem FnExactMissingIn : SayFnExactMissingIn.Pure := by
  intro a b ha xa hb xb
  refine Ev.rounds (?_ : Ev (fun k => laws_FnExactMissingIn.f k a b) true)
  unfold laws_FnExactMissingIn.f
  simp only [sz_tells a ha 1048576 (by omega) (by omega), Option.bind_some]
  by_cases h1 : (1048576 : Int) - (a.length : Int) < 0
  · simp only [if_pos h1, if_pos (show (-1 : Int) < 0 by omega)]
    exact Ev.now _
  · simp only [if_neg h1, sz_tells b hb (1048576 - (a.length : Int)) (by omega) (by omega), Option.bind_some]
    by_cases h2 : (1048576 : Int) - (a.length : Int) - (b.length : Int) < 0
    · simp only [if_pos h2, if_pos (show (-1 : Int) < 0 by omega)]
      exact Ev.now _
    · simp only [if_neg h2]
      have T1 := ev_of (toEntryS_tells a ha)
      have T2 := ev_of (toEntryS_tells b hb)
      have hl1 : (a.map cEntry).length = a.length := by simp
      have hl2 : (b.map cEntry).length = b.length := by simp
      have o1 := ok_of a xa
      have o2 := ok_of b xb
      generalize a.map cEntry = L at T1 hl1 o1
      generalize b.map cEntry = M at T2 hl2 o2
      obtain ⟨t1, t2, t3⟩ := tells L M (by omega) (by omega) o1 o2
      generalize out L M = O at t1 t2 t3
      obtain ⟨O1, O2⟩ := O
      simp only at t3
      have A1 := ev_of (eqEntryS_tells L (by omega))
      have A2 := ev_of (eqEntryS_tells M (by omega))
      have A3 := ev_of (eqEntryS_tells O1 (by omega))
      have A4 := ev_of (markEntryS_tells L (by omega) 1 (by omega) (by omega))
      have q1 : 0 ≤ cnt 1 5 L.length ∧ cnt 1 5 L.length ≤ 1152921504606846976 := by unfold cnt; omega
      have A5 := ev_of (markEntryS_tells M (by omega) (cnt 1 5 L.length) q1.1 q1.2)
      have A6 := ev_of (markEntryS_tells O1 (by omega) 1 (by omega) (by omega))
      have A7 := ev_of (heldEntryS_tells O1.length (by omega) 1 (by omega) (by omega))
      have A8 : ¬ (cnt (cnt 1 5 L.length) 5 M.length < 0) := cnt_ok q1.1
      have A9 : ¬ (cnt 1 5 O1.length < 0) := cnt_ok (by omega)
      clear hl1 hl2 t3 h1 h2 ha hb o1 o2 q1
      repeat (first
        | exact Ev.now _
        | simp only [t2, Option.bind_some]
        | refine Ev.bind t1 ?_
        | refine Ev.bind T1 ?_
        | refine Ev.bind T2 ?_
        | refine Ev.bind A1 ?_
        | refine Ev.bind A2 ?_
        | refine Ev.bind A3 ?_
        | refine Ev.bind A4 ?_
        | refine Ev.bind A5 ?_
        | refine Ev.bind A6 ?_
        | refine Ev.bind A7 ?_
        | simp only [if_true, bne_self, if_neg Bool.false_ne_true, if_neg A8, if_neg A9]
        | refine Ev.step (fun k => laws_FnExactMissingIn.j0.eq_2 ..) ?_
        | refine Ev.step (fun k => laws_FnExactMissingIn.j1.eq_2 ..) ?_
        | refine Ev.step (fun k => laws_FnExactMissingIn.j2.eq_2 ..) ?_)
end Go.Proofs.Ytgjkpjagmhdfgaa.PureFnExactMissingIn
