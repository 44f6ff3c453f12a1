/- FnExactSameLedger: the program's SameLedger answers as the reference's does, for all ledgers that the law lets in. No condition. -/
import Derived.Test.YtodlaafabnmbhaaSayFnExactSameLedger
import Derived.Test.YtodlaafabnmbhaaFHpEntry
import Derived.Test.YtodlaafabnmbhaaFLibEntry
namespace Go.Proofs.Ytodlaafabnmbhaa.PureFnExactSameLedger
open Go.RowKit Go.Proofs.YtodlaafabnmbhaaW.PrintWords Go.Proofs.Ytodlaafabnmbhaa.G Go.Proofs.Ytodlaafabnmbhaa.SayFnExactSameLedger Go.Proofs.Ytodlaafabnmbhaa.Wk Go.Proofs.Ytodlaafabnmbhaa.Pl
set_option linter.unusedSimpArgs false
set_option linter.unusedVariables false
/-- Are two entries told apart? -/
def neB (a b : S33) : Bool := (!(a.f0 == b.f0) || (!(a.f1 == b.f1) || (!(a.f2 == b.f2) || (!(a.f3 == b.f3) || (!(a.f4 == b.f4))))))
def sameB (a b : List S33) : Bool := decide (a.length = b.length) && (List.range a.length).all fun j => !(neB (a.getD j z33) (b.getD j z33))
theorem loop_tells {F : Nat → Int → Option Bool} (a b : List S33) (hn : a.length ≤ 4611686018427387904) (hl : a.length = b.length)
    (hF : ∀ k (i : Nat), i < a.length → F (k + 1) i = if neB (a.getD i z33) (b.getD i z33) = true then some false else F k (wrap64 ((i : Int) + 1))) (hend : ∀ k, F (k + 1) a.length = some true) : ∀ k, a.length < k → F k 0 = some (sameB a b) := by
  rcases first_bad (fun j => !(neB (a.getD j z33) (b.getD j z33))) a.length with h | ⟨m, hm, hbad, hb⟩
  · have e : sameB a b = true := by
      unfold sameB
      simp only [hl, decide_true, Bool.true_and, List.all_eq_true]
      intro j hj
      exact h j (by rw [hl]; exact List.mem_range.1 hj)
    rw [e]
    intro k hk
    refine run_loop (F := fun k i (_ : Unit) => F k i) hn (fun _ => ()) _ (fun k i hi => ?_) (fun k => hend k) k hk
    have h2 := h i hi
    simp only [Bool.not_eq_true'] at h2
    show F (k + 1) i = _
    rw [hF k i hi, if_neg (by rw [h2]; simp)]
  · have e : sameB a b = false := by
      unfold sameB
      simp only [hl, decide_true, Bool.true_and, List.all_eq_false]
      exact ⟨m, List.mem_range.2 (by omega), by simpa using hbad⟩
    rw [e]
    intro k hk
    refine run_loop (F := fun k i (_ : Unit) => F k i) (n := m) (by omega) (fun _ => ()) _ (fun k i hi => ?_) (fun k => ?_) k (by omega)
    · have h2 := hb i hi
      simp only [Bool.not_eq_true'] at h2
      show F (k + 1) i = _
      rw [hF k i (by omega), if_neg (by rw [h2]; simp)]
    · show F (k + 1) m = _
      have h2 : neB (a.getD m z33) (b.getD m z33) = true := by simpa using hbad
      rw [hF k m hm, if_pos h2]
theorem spec_tells (a b : List S33) (hn : a.length ≤ 4611686018427387904) : ∀ k, a.length < k → spec_SameLedger.f k a b = some (sameB a b) := by
  intro k hk
  unfold spec_SameLedger.f
  by_cases h : a.length = b.length
  · rw [if_pos (by omega)]
    refine loop_tells (F := fun k i => spec_SameLedger.l0 k a b i) a b hn h (fun k i hi => ?_) (fun k => ?_) k hk
    · have h1 : (i : Int) < (a.length : Int) := by omega
      show spec_SameLedger.l0 (k + 1) a b i = _
      simp only [spec_SameLedger.l0]
      rw [if_pos h1, if_pos (by omega), if_pos (by omega)]
      rfl
    · show spec_SameLedger.l0 (k + 1) a b _ = _
      simp only [spec_SameLedger.l0]
      rw [if_neg (by omega)]
  · rw [if_neg (by omega)]
    unfold sameB
    simp [h]
theorem impl_tells (a b : List S33) (hn : a.length ≤ 4611686018427387904) : ∀ k, a.length < k → impl_SameLedger.f k a b = some (sameB a b) := by
  intro k hk
  unfold impl_SameLedger.f
  suffices h : impl_Entry_67.f k a b = some (sameB a b) by rw [h]; rfl
  unfold impl_Entry_67.f
  by_cases h : a.length = b.length
  · rw [if_pos (by omega)]
    refine loop_tells (F := fun k i => impl_Entry_67.l0 k a b (a.length : Int) i) a b hn h (fun k i hi => ?_) (fun k => ?_) k hk
    · have h1 : (i : Int) < (a.length : Int) := by omega
      show impl_Entry_67.l0 (k + 1) a b (a.length : Int) i = _
      simp only [impl_Entry_67.l0]
      rw [if_pos h1, if_pos (by omega), if_pos h1, if_pos (by omega)]
      rfl
    · show impl_Entry_67.l0 (k + 1) a b (a.length : Int) _ = _
      simp only [impl_Entry_67.l0]
      rw [if_neg (by omega)]
  · rw [if_neg (by omega)]
    unfold sameB
    simp [h]
theorem FnExactSameLedger : SayFnExactSameLedger.Pure := by
  intro a b ha _ hb _
  refine Ev.rounds (?_ : Ev (fun k => laws_FnExactSameLedger.f k a b) true)
  unfold laws_FnExactSameLedger.f
  simp only [szEntryS_tells a ha 1048576 (by omega) (by omega), Option.bind_some]
  by_cases h1 : (1048576 : Int) < a.length
  · simp only [if_pos h1]
    exact Ev.now _
  · simp only [if_neg h1, if_neg (show ¬ ((1048576 : Int) - a.length < 0) by omega)]
    simp only [szEntryS_tells b hb ((1048576 : Int) - a.length) (by omega) (by omega), Option.bind_some]
    by_cases h2 : (1048576 : Int) - a.length < b.length
    · simp only [if_pos h2]
      exact Ev.now _
    · simp only [if_neg h2, if_neg (show ¬ ((1048576 : Int) - a.length - b.length < 0) by omega)]
      refine Ev.bind (ev_of (toEntryS_tells a ha)) ?_
      refine Ev.bind (ev_of (toEntryS_tells b hb)) ?_
      refine Ev.bind (ev_of (spec_tells (a.map cEntry) (b.map cEntry) (by simp; omega))) ?_
      refine Ev.bind (ev_of (toEntryS_tells a ha)) ?_
      refine Ev.bind (ev_of (toEntryS_tells b hb)) ?_
      refine Ev.bind (ev_of (impl_tells (a.map cEntry) (b.map cEntry) (by simp; omega))) ?_
      simp only [bne_self, if_neg Bool.false_ne_true]
      refine Ev.bind (ev_of (toEntryS_tells a ha)) ?_
      refine Ev.bind (ev_of (eqEntryS_tells (a.map cEntry) (by simp; omega))) ?_
      simp only [if_true]
      refine Ev.bind (ev_of (toEntryS_tells b hb)) ?_
      refine Ev.bind (ev_of (eqEntryS_tells (b.map cEntry) (by simp; omega))) ?_
      exact Ev.now _
end Go.Proofs.Ytodlaafabnmbhaa.PureFnExactSameLedger
