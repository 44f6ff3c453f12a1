import Derived.Test.YtckcgfpbmojmoaaZSayFnExactMergeLedgers
import Derived.Test.YtckcgfpbmojmoaaZFHpEntry
import Derived.Test.YtckcgfpbmojmoaaZFLibMrg
namespace Go.Proofs.Ytckcgfpbmojmoaa.PureFnExactMergeLedgers
open Go.RowKit Go.Proofs.YtckcgfpbmojmoaaW.PrintWords Go.Proofs.Ytckcgfpbmojmoaa.G Go.Proofs.Ytckcgfpbmojmoaa.SayFnExactMergeLedgers Go.Proofs.Ytckcgfpbmojmoaa.Wk Go.Proofs.Ytckcgfpbmojmoaa.Pl Miss
set_option linter.unusedSimpArgs false
set_option linter.unusedVariables false
theorem ok_of (l : List S55) (h : ∀ x ∈ l, Ok55 x) : (l.map cEntry).all okE = true := by
  rw [List.all_eq_true]
  intro x hx
  obtain ⟨y, hy, rfl⟩ := List.mem_map.1 hx
  have := h y hy
  unfold okE
  simp only [Bool.and_eq_true, inB_iff]
  exact ⟨⟨⟨⟨this.1, this.2.1⟩, this.2.2.1⟩, this.2.2.2.1⟩, this.2.2.2.2⟩
theorem sz_tells (l : List S55) (hl : l.length * 8 ≤ 140737488351232) (n : Int) (h0 : 0 ≤ n) (h1 : n ≤ 1048576) : laws_szEntryS.f l n = some (if n - (l.length : Int) < 0 then -1 else n - (l.length : Int)) := by
  unfold laws_szEntryS.f
  rw [w_id (x := n - (l.length : Int)) (by omega) (by omega)]
  split <;> rfl
theorem FnExactMergeLedgers : SayFnExactMergeLedgers.Pure := by
  intro p a b _ ha xa hb xb
  refine Ev.rounds (?_ : Ev (fun k => laws_FnExactMergeLedgers.f k p a b) true)
  unfold laws_FnExactMergeLedgers.f
  simp only [sz_tells a ha 1048576 (by omega) (by omega), Option.bind_some]
  by_cases h1 : (1048576 : Int) - (a.length : Int) < 0
  · simp only [if_pos h1, if_pos (show (-1 : Int) < 0 by omega)]
    exact Ev.now _
  · simp only [if_neg h1, sz_tells b hb (1048576 - (a.length : Int)) (by omega) (by omega), Option.bind_some]
    by_cases h2 : (1048576 : Int) - (a.length : Int) - (b.length : Int) < 0
    · simp only [if_pos h2, if_pos (show (-1 : Int) < 0 by omega)]
      exact Ev.now _
    · simp only [if_neg h2]
      have T1 := ev_of (toEntryS_tells a ha)
      have T2 := ev_of (toEntryS_tells b hb)
      have hl1 : (a.map cEntry).length = a.length := by simp
      have hl2 : (b.map cEntry).length = b.length := by simp
      have o1 := ok_of a xa
      have o2 := ok_of b xb
      generalize a.map cEntry = L at T1 hl1 o1
      generalize b.map cEntry = M at T2 hl2 o2
      obtain ⟨t1, t2, t3⟩ := MrgL.tells p L M (by omega) (by omega) o1 o2
      generalize MrgL.out p L M = O at t1 t2 t3
      obtain ⟨O1, O2⟩ := O
      simp only at t3
      have A1 := ev_of (eqEntryS_tells L (by omega))
      have A2 := ev_of (eqEntryS_tells M (by omega))
      have A3 := ev_of (eqEntryS_tells O1 (by omega))
      have A4 := ev_of (markEntryS_tells L (by omega) 1 (by omega) (by omega))
      have q1 : 0 ≤ cnt 1 5 L.length ∧ cnt 1 5 L.length ≤ 1152921504606846976 := by unfold cnt; omega
      have A5 := ev_of (markEntryS_tells M (by omega) (cnt 1 5 L.length) q1.1 q1.2)
      have A6 := ev_of (markEntryS_tells O1 (by omega) 1 (by omega) (by omega))
      have A7 := ev_of (heldEntryS_tells O1.length (by omega) 1 (by omega) (by omega))
      have A8 : ¬ (cnt (cnt 1 5 L.length) 5 M.length < 0) := cnt_ok q1.1
      have A9 : ¬ (cnt 1 5 O1.length < 0) := cnt_ok (by omega)
      clear hl1 hl2 t3 h1 h2 ha hb o1 o2 q1
      repeat (first
        | exact Ev.now _
        | refine Ev.bind t1 ?_
        | refine Ev.bind t2 ?_
        | refine Ev.bind T1 ?_
        | refine Ev.bind T2 ?_
        | refine Ev.bind A1 ?_
        | refine Ev.bind A2 ?_
        | refine Ev.bind A3 ?_
        | refine Ev.bind A4 ?_
        | refine Ev.bind A5 ?_
        | refine Ev.bind A6 ?_
        | refine Ev.bind A7 ?_
        | simp only [if_true, bne_self, if_neg Bool.false_ne_true, if_neg A8, if_neg A9]
        | refine Ev.step (fun k => laws_FnExactMergeLedgers.j0.eq_2 ..) ?_
        | refine Ev.step (fun k => laws_FnExactMergeLedgers.j1.eq_2 ..) ?_
        | refine Ev.step (fun k => laws_FnExactMergeLedgers.j2.eq_2 ..) ?_)
end Go.Proofs.Ytckcgfpbmojmoaa.PureFnExactMergeLedgers
