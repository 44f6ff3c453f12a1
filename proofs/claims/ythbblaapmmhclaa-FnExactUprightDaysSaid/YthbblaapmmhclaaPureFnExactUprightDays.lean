/- FnExactUprightDays: the program's UprightDays answers as the reference's does, for all rows, walkers and days that the law lets in; its result shares no memory. No condition. -/
import Derived.Test.YthbblaapmmhclaaSayFnExactUprightDays
import Derived.Test.YthbblaapmmhclaaFHpRow
import Derived.Test.YthbblaapmmhclaaFHpWalker
import Derived.Test.YthbblaapmmhclaaFHpI64
import Derived.Test.YthbblaapmmhclaaFLibSpan
namespace Go.Proofs.Ythbblaapmmhclaa.PureFnExactUprightDays
open Go.RowKit Go.Proofs.YthbblaapmmhclaaW.PrintWords Go.Proofs.Ythbblaapmmhclaa.G Go.Proofs.Ythbblaapmmhclaa.SayFnExactUprightDays Go.Proofs.Ythbblaapmmhclaa.Wk Go.Proofs.Ythbblaapmmhclaa.Pl LW
set_option linter.unusedSimpArgs false
set_option linter.unusedVariables false
def nz (l : List Int) : Bool := (List.range l.length).any fun j => (l.getD j 0) != 0
def ups (r : List Int) (l : List W) (a : Int) : Nat → List Int
  | 0 => []
  | j + 1 => if nz (behindL r l (untilW (a + j))) = true then ups r l a j else ups r l a j ++ [a + j]
theorem ups_len (r : List Int) (l : List W) (a : Int) : ∀ j, (ups r l a j).length ≤ j
  | 0 => by simp [ups]
  | j + 1 => by
    have := ups_len r l a j
    rw [ups]
    split
    · omega
    · simp; omega
def out (r : List Int) (l : List W) (a b : Int) : List Int × Int := if spanC (rowOkB r && walkersB r.length l) a b = 0 then (ups r l a (b - a + 1).toNat, 0) else ([], spanC (rowOkB r && walkersB r.length l) a b)
theorem out_len (r : List Int) (l : List W) (a b : Int) : (out r l a b).1.length ≤ 400 := by
  unfold out
  split
  · rename_i h
    obtain ⟨_, h1, h2, h3, h4⟩ := spanC_zero h
    have := ups_len r l a (b - a + 1).toNat
    show (ups r l a (b - a + 1).toNat).length ≤ 400
    omega
  · simp
theorem impl_tells (r : List Int) (l : List W) (a b : Int) (hr : ∀ x ∈ r, 0 ≤ x ∧ x ≤ 255) (hl : ∀ x ∈ l, SmallW x) : Ev (fun k => impl_UprightDays.f k r l a b) (out r l a b) := by
  unfold impl_UprightDays.f out
  simp only [rowOk_t, Option.bind_some]
  refine Ev.bind (impl_span_t _ a b) ?_
  by_cases h : spanC (rowOkB r && walkersB r.length l) a b = 0
  · simp only [if_pos h]
    obtain ⟨hv, h1, h2, h3, h4⟩ := spanC_zero h
    have hG := goodR_of hr hl hv
    obtain ⟨m, hm⟩ := Int.eq_ofNat_of_zero_le (show 0 ≤ b - a + 1 by omega)
    rw [show (b - a + 1).toNat = m by omega]
    have key := ev_steps (F := fun k i (x : List Int) => impl_UprightDays.l0 k r l b x (a + i)) 0 m (Nat.zero_le _) (fun j => ups r l a j) (ups r l a m, (0 : Int)) (fun j _ hj hh => by
      refine Ev.step (fun k => impl_UprightDays.l0.eq_2 _ _ _ _ _ k) ?_
      have hlen := ups_len r l a j
      have hw : wrap64 (a + (j : Int) + 1) = a + ((j + 1 : Nat) : Int) := by rw [w_id (by omega) (by omega)]; omega
      simp only [if_pos (show a + (j : Int) ≤ b by omega)]
      refine Ev.bind (rowOn_t hG (a + j) (by omega) (by omega)) ?_
      simp only [contNZ.f, Option.bind_some, hw, if_pos (show (ups r l a j).length < 17592186044416 by omega)]
      have e : ups r l a (j + 1) = if nz (behindL r l (untilW (a + j))) = true then ups r l a j else ups r l a j ++ [a + j] := rfl
      rw [e] at hh
      unfold nz at hh
      cases hz : (List.range (behindL r l (untilW (a + j))).length).any fun q => ((behindL r l (untilW (a + j))).getD q 0) != 0
      · rw [hz] at hh
        simp only [Bool.false_eq_true, if_false] at hh ⊢
        exact hh
      · rw [hz] at hh
        simp only [if_true] at hh ⊢
        exact hh) (by
      refine Ev.step (fun k => impl_UprightDays.l0.eq_2 _ _ _ _ _ k) ?_
      simp only [if_neg (show ¬ a + (m : Int) ≤ b by omega)]
      exact Ev.now _)
    simpa [ups] using key
  · simp only [if_neg h]
    exact Ev.now _
theorem spec_tells (r : List Int) (l : List W) (a b : Int) (hr : ∀ x ∈ r, 0 ≤ x ∧ x ≤ 255) (hl : ∀ x ∈ l, SmallW x) (hr2 : r.length ≤ 1048576) (hl2 : l.length ≤ 1048576) : Ev (fun k => spec_UprightDays.f k r l a b) (out r l a b) := by
  unfold spec_UprightDays.f out
  simp only [from_t, Option.bind_some]
  refine Ev.bind (row_t r l hr2 hl2 _) ?_
  simp only [span_t, Option.bind_some]
  by_cases h : spanC (rowOkB r && walkersB r.length l) a b = 0
  · simp only [if_pos h]
    obtain ⟨hv, h1, h2, h3, h4⟩ := spanC_zero h
    have hG := goodR_of hr hl hv
    obtain ⟨m, hm⟩ := Int.eq_ofNat_of_zero_le (show 0 ≤ b - a + 1 by omega)
    rw [show (b - a + 1).toNat = m by omega]
    have hwhole := whole_t hG.n.1 hG.n.2 l hG.l8 hG.good (fun i => r.getD i 0) (fun i _ => hG.seven i) a h1 (by omega)
    rw [← rowSelf r] at hwhole
    refine Ev.bind hwhole ?_
    have row0 : (rowF r.length fun i => (r.getD i 0 + sw r.length (untilW a) i l) % 8) = behindL r l (untilW (a + ((0 - 1 : Nat) : Int))) := by
      show _ = behindL r l (untilW (a + ((0 : Nat) : Int)))
      rw [show a + ((0 : Nat) : Int) = a by omega]
      rfl
    rw [row0]
    have fin : ∀ (j : Nat) (X : List Int) (hX : X = behindL r l (untilW (a + j))) (hj : j < m), Ev (fun k => spec_UprightDays.l0 k l a b (ups r l a (j + 1)) X (a + ((j + 1 : Nat) : Int))) (ups r l a m, (0 : Int)) →
        Ev (fun k => (spec_l05Upright.f k X).bind fun t => if t = true then (if (ups r l a j).length < 17592186044416 then (spec_UprightDays.l0 k l a b (ups r l a j ++ [a + (j : Int)]) X (wrap64 (a + (j : Int) + 1))) else none) else spec_UprightDays.l0 k l a b (ups r l a j) X (wrap64 (a + (j : Int) + 1))) (ups r l a m, (0 : Int)) := by
      intro j X hX hj hh
      have hlen := ups_len r l a j
      have hw : wrap64 (a + (j : Int) + 1) = a + ((j + 1 : Nat) : Int) := by rw [w_id (by omega) (by omega)]; omega
      have hXl : X.length ≤ 1048576 := by rw [hX, behindL_len]; exact hr2
      refine Ev.bind (upright_t X hXl) ?_
      have e : ups r l a (j + 1) = if nz (behindL r l (untilW (a + j))) = true then ups r l a j else ups r l a j ++ [a + j] := rfl
      rw [e, ← hX] at hh
      unfold nz at hh
      simp only [hw, if_pos (show (ups r l a j).length < 17592186044416 by omega)]
      cases hz : (List.range X.length).any fun q => (X.getD q 0) != 0
      · rw [hz] at hh
        simp only [Bool.false_eq_true, if_false, Bool.not_false, if_true] at hh ⊢
        exact hh
      · rw [hz] at hh
        simp only [if_true, Bool.not_true, Bool.false_eq_true, if_false] at hh ⊢
        exact hh
    have key := ev_steps (F := fun k i (q : List Int × List Int) => spec_UprightDays.l0 k l a b q.1 q.2 (a + i)) 0 m (Nat.zero_le _) (fun j => (ups r l a j, behindL r l (untilW (a + ((j - 1 : Nat) : Int))))) (ups r l a m, (0 : Int)) (fun j _ hj hh => by
      refine Ev.step (fun k => spec_UprightDays.l0.eq_2 _ _ _ _ _ _ k) ?_
      simp only [if_pos (show a + (j : Int) ≤ b by omega)]
      by_cases hj0 : j = 0
      · subst hj0
        simp only [if_neg (show ¬ a + ((0 : Nat) : Int) > a by omega)]
        exact fin 0 _ rfl hj hh
      · simp only [if_pos (show a + (j : Int) > a by omega)]
        have hb := behind_t hG.n.1 hG.n.2 l hG.l8 hG.good (fun i => (r.getD i 0 + sw r.length (untilW (a + ((j - 1 : Nat) : Int))) i l) % 8) (fun i _ => by omega) (a + j) (by omega) (by omega)
        refine Ev.bind hb ?_
        have e : (rowF r.length fun i => ((r.getD i 0 + sw r.length (untilW (a + ((j - 1 : Nat) : Int))) i l) % 8 + sw r.length (onI (a + j)) i l) % 8) = behindL r l (untilW (a + j)) := rowF_congr fun i _ => by
          have h1 : sw r.length (untilW (a + j)) i l = sw r.length (fun x => untilW (a + ((j - 1 : Nat) : Int)) x + onI (a + j) x) i l := sw_congr _ _ l fun x hx => by
            have := untilW_next (hG.good x hx) (a + ((j - 1 : Nat) : Int))
            rw [show a + ((j - 1 : Nat) : Int) + 1 = a + j by omega] at this
            exact this
          rw [h1, sw_add]
          omega
        refine fin j _ e hj ?_
        rw [e]
        exact hh) (by
      refine Ev.step (fun k => spec_UprightDays.l0.eq_2 _ _ _ _ _ _ k) ?_
      simp only [if_neg (show ¬ a + (m : Int) ≤ b by omega)]
      exact Ev.now _)
    simpa [ups] using key
  · simp only [if_neg h]
    exact Ev.now _
theorem sz_tells (l : List S79) (hl : l.length * 12 ≤ 140737488351232) (n : Int) (h0 : 0 ≤ n) (h1 : n ≤ 1048576) : laws_szWalkerS.f l n = some (if n - (l.length : Int) < 0 then -1 else n - (l.length : Int)) := by
  unfold laws_szWalkerS.f
  rw [w_id (x := n - (l.length : Int)) (by omega) (by omega)]
  split <;> rfl
theorem FnExactUprightDays : SayFnExactUprightDays.Pure := by
  intro a b p q ha xa hb xb _ _
  refine Ev.rounds (?_ : Ev (fun k => laws_FnExactUprightDays.f k a b p q) true)
  unfold laws_FnExactUprightDays.f
  by_cases g1 : (a.length : Int) > 1048576
  · simp only [if_pos g1]; exact Ev.now _
  simp only [if_neg g1, sz_tells b hb 1048576 (by omega) (by omega), Option.bind_some]
  by_cases h1 : (1048576 : Int) - (b.length : Int) < 0
  · simp only [if_pos h1, if_pos (show (-1 : Int) < 0 by omega)]
    exact Ev.now _
  · simp only [if_neg h1]
    have T1 := ev_of (toRow_tells a ha)
    have T2 := ev_of (toWalkerS_tells b hb)
    have hl2 : (b.map cWalker).length = b.length := by simp
    have hs : ∀ x ∈ b.map cWalker, SmallW x := fun x hx => by
      obtain ⟨y, hy, rfl⟩ := List.mem_map.1 hx
      exact xb y hy
    generalize b.map cWalker = B at T2 hl2 hs
    have t1 := spec_tells a B p q xa hs (by omega) (by omega)
    have t2 := impl_tells a B p q xa hs
    have t3 := out_len a B p q
    generalize out a B p q = O at t1 t2 t3
    obtain ⟨O1, O2⟩ := O
    simp only at t3
    have A1 := ev_of (eqRow_tells a (by omega))
    have A2 := ev_of (eqWalkerS_tells B (by omega))
    have A3 := ev_of (eqInt64S_tells O1 (by omega))
    have A4 := ev_of (markRow_tells a (by omega) 1 (by omega) (by omega))
    have q1 : 0 ≤ cnt 1 1 a.length ∧ cnt 1 1 a.length ≤ 1152921504606846976 := by unfold cnt; omega
    have A5 := ev_of (markWalkerS_tells B (by omega) (cnt 1 1 a.length) q1.1 q1.2)
    have A6 := ev_of (markInt64S_tells O1 (by omega) 1 (by omega) (by omega))
    have A7 := ev_of (heldInt64S_tells O1.length (by omega) 1 (by omega) (by omega))
    have A8 : ¬ (cnt (cnt 1 1 a.length) 6 B.length < 0) := cnt_ok q1.1
    have A9 : ¬ (cnt 1 1 O1.length < 0) := cnt_ok (by omega)
    clear hl2 t3 h1 ha hb q1 g1 hs xa xb
    repeat (first
      | exact Ev.now _
      | simp only [Option.bind_some]
      | refine Ev.bind t1 ?_
      | refine Ev.bind t2 ?_
      | refine Ev.bind T1 ?_
      | refine Ev.bind T2 ?_
      | refine Ev.bind A1 ?_
      | refine Ev.bind A2 ?_
      | refine Ev.bind A3 ?_
      | refine Ev.bind A4 ?_
      | refine Ev.bind A5 ?_
      | refine Ev.bind A6 ?_
      | refine Ev.bind A7 ?_
      | simp only [if_true, bne_self, if_neg Bool.false_ne_true, if_neg A8, if_neg A9]
      | refine Ev.step (fun k => laws_FnExactUprightDays.j0.eq_2 ..) ?_
      | refine Ev.step (fun k => laws_FnExactUprightDays.j1.eq_2 ..) ?_
      | refine Ev.step (fun k => laws_FnExactUprightDays.j2.eq_2 ..) ?_)
end Go.Proofs.Ythbblaapmmhclaa.PureFnExactUprightDays
