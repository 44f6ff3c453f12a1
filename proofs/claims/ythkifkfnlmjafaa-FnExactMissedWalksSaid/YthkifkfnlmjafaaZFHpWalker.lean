import Derived.Test.YthkifkfnlmjafaaZPl
import Derived.Test.YthkifkfnlmjafaaZG2
import Derived.Test.YthkifkfnlmjafaaZG2
import Derived.Test.YthkifkfnlmjafaaZG2
namespace Go.Proofs.Ythkifkfnlmjafaa.G
open Go.RowKit Go.Proofs.YthkifkfnlmjafaaW.PrintWords Go.Proofs.YthkifkfnlmjafaaW.PrintLast Go.Proofs.YthkifkfnlmjafaaW.PrintMore
attribute [local go_sem] max2_int min2_int max_two min_two max_three min_three max_four min_four
set_option linter.unusedVariables false
set_option linter.unusedSimpArgs false
open Go.Proofs.Ythkifkfnlmjafaa.Wk Go.Proofs.Ythkifkfnlmjafaa.Pl
def cWalker (x : S55) : S53 := ⟨x.f0, x.f1, x.f2, x.f3, x.f4, x.f5⟩
theorem toWalkerS_tells (l : List S55) (hl : l.length * 12 ≤ 140737488351232) : ∀ k, l.length < k → laws_toWalkerS.f k l = some (l.map cWalker) := by
  intro k hk
  unfold laws_toWalkerS.f
  rw [if_pos (by omega), if_pos (by simp only [Int.toNat_natCast]; omega), Int.toNat_natCast]
  have h := fill_loop (F := fun k i x => laws_toWalkerS.l0 k l x i) (l := List.replicate l.length z53) (by simp; omega) (fun j => cWalker (l.getD j z55)) (fun k i x hx hi => by
    have h1 : (i : Int) < (l.length : Int) := by simp at hi; omega
    have h2 : (i : Int) < (x.length : Int) := by rw [hx]; simp; simpa using hi
    show laws_toWalkerS.l0 (k + 1) l x i = _
    simp only [laws_toWalkerS.l0, laws_toWalker.f, Option.bind_some]
    rw [if_pos h1, if_pos (by omega), if_pos h2]
    simp only [Int.toNat_natCast]
    rfl) (fun k x hx => by
    show laws_toWalkerS.l0 (k + 1) l x _ = _
    simp only [laws_toWalkerS.l0]
    rw [if_neg (by simp)]) k (by simpa using hk)
  simp only [List.length_replicate] at h
  rw [h]
  rw [show ((List.range l.length).map fun j => cWalker (l.getD j z55)) = l.map cWalker from map_range l z55 cWalker]
theorem eqWalkerS_tells (l : List S53) (hl : l.length * 12 ≤ 140737488355328) : ∀ k, l.length < k → laws_eqWalkerS.f k l l = some true := by
  intro k hk
  unfold laws_eqWalkerS.f
  rw [if_pos rfl]
  refine eq_loop (F := laws_eqWalkerS.l0) (by omega) (fun k i hi => ?_) (fun k => ?_) k hk
  · have h1 : (i : Int) < (l.length : Int) := by omega
    simp only [laws_eqWalkerS.l0]
    rw [if_pos h1, if_pos (by omega), if_pos h1]
    simp [laws_eqWalker.f]
  · simp only [laws_eqWalkerS.l0]
    rw [if_neg (by omega)]
def mkWalker (p : Int) : S53 := ⟨IntKind.i16.wrap (p), IntKind.i16.wrap (p + 1), IntKind.i16.wrap (p + 2), IntKind.i16.wrap (p + 3), IntKind.i16.wrap (p + 4), IntKind.i8.wrap (p + 5)⟩
theorem markWalkerS_tells (l : List S53) (hl : l.length ≤ 1099511627776) (q : Int) (hq : 0 ≤ q) (hq2 : q ≤ 1152921504606846976) : ∀ k, l.length < k → laws_markWalkerS.f k l q = some (cnt q 6 l.length, (List.range l.length).map fun j => mkWalker (cnt q 6 j)) := by
  intro k hk
  unfold laws_markWalkerS.f
  refine mark_loop (F := laws_markWalkerS.l0) (c := 6) mkWalker hl (by omega) hq hq2 (fun k i x p h0 h1 hi => ?_) (fun k x p => ?_) k hk
  · have h2 : (i : Int) < (x.length : Int) := by omega
    have w1 : wrap64 (p + 1) = p + 1 := w_id (by omega) (by omega)
    have w2 : wrap64 (p + 2) = p + 2 := w_id (by omega) (by omega)
    have w3 : wrap64 (p + 3) = p + 3 := w_id (by omega) (by omega)
    have w4 : wrap64 (p + 4) = p + 4 := w_id (by omega) (by omega)
    have w5 : wrap64 (p + 5) = p + 5 := w_id (by omega) (by omega)
    have w6 : wrap64 (p + 6) = p + 6 := w_id (by omega) (by omega)
    have v1 : p + 1 + 1 = p + 2 := by omega
    have v2 : p + 2 + 1 = p + 3 := by omega
    have v3 : p + 3 + 1 = p + 4 := by omega
    have v4 : p + 4 + 1 = p + 5 := by omega
    have v5 : p + 5 + 1 = p + 6 := by omega
    simp only [laws_markWalkerS.l0]
    rw [if_pos h2, if_pos (by omega)]
    simp only [Option.bind_some, Int.toNat_natCast, w1, v1, w2, v2, w3, v3, w4, v4, w5, v5, w6, rd_T53, List.set_set]
    simp only [getD_set_self, hi, List.length_set, List.set_set]
    rfl
  · simp only [laws_markWalkerS.l0]
    rw [if_neg (by omega)]
end Go.Proofs.Ythkifkfnlmjafaa.G
