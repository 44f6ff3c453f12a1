import Derived.Test.YtckcgfpbmojmoaaZPl
import Derived.Test.YtckcgfpbmojmoaaZG2
import Derived.Test.YtckcgfpbmojmoaaZG6
import Derived.Test.YtckcgfpbmojmoaaZG6
import Derived.Test.YtckcgfpbmojmoaaZFEqEntry
namespace Go.Proofs.Ytckcgfpbmojmoaa.G
open Go.RowKit Go.Proofs.YtckcgfpbmojmoaaW.PrintWords Go.Proofs.YtckcgfpbmojmoaaW.PrintLast Go.Proofs.YtckcgfpbmojmoaaW.PrintMore
attribute [local go_sem] max2_int min2_int max_two min_two max_three min_three max_four min_four
set_option linter.unusedVariables false
set_option linter.unusedSimpArgs false
open Go.Proofs.Ytckcgfpbmojmoaa.Wk Go.Proofs.Ytckcgfpbmojmoaa.Pl
def cEntry (x : S55) : S40 := ⟨x.f0, x.f1, x.f2, x.f3, x.f4⟩
theorem toEntryS_tells (l : List S55) (hl : l.length * 8 ≤ 140737488351232) : ∀ k, l.length < k → laws_toEntryS.f k l = some (l.map cEntry) := by
  intro k hk
  unfold laws_toEntryS.f
  rw [if_pos (by omega), if_pos (by simp only [Int.toNat_natCast]; omega), Int.toNat_natCast]
  have h := fill_loop (F := fun k i x => laws_toEntryS.l0 k l x i) (l := List.replicate l.length z40) (by simp; omega) (fun j => cEntry (l.getD j z55)) (fun k i x hx hi => by
    have h1 : (i : Int) < (l.length : Int) := by simp at hi; omega
    have h2 : (i : Int) < (x.length : Int) := by rw [hx]; simp; simpa using hi
    show laws_toEntryS.l0 (k + 1) l x i = _
    simp only [laws_toEntryS.l0, laws_toEntry.f, Option.bind_some]
    rw [if_pos h1, if_pos (by omega), if_pos h2]
    simp only [Int.toNat_natCast]
    rfl) (fun k x hx => by
    show laws_toEntryS.l0 (k + 1) l x _ = _
    simp only [laws_toEntryS.l0]
    rw [if_neg (by simp)]) k (by simpa using hk)
  simp only [List.length_replicate] at h
  rw [h]
  rw [show ((List.range l.length).map fun j => cEntry (l.getD j z55)) = l.map cEntry from map_range l z55 cEntry]
def mkEntry (p : Int) : S40 := ⟨IntKind.i16.wrap (p), IntKind.i8.wrap (p + 1), IntKind.i8.wrap (p + 2), (p + 3) % 256, IntKind.i16.wrap (p + 4)⟩
theorem markEntryS_tells (l : List S40) (hl : l.length ≤ 1099511627776) (q : Int) (hq : 0 ≤ q) (hq2 : q ≤ 1152921504606846976) : ∀ k, l.length < k → laws_markEntryS.f k l q = some (cnt q 5 l.length, (List.range l.length).map fun j => mkEntry (cnt q 5 j)) := by
  intro k hk
  unfold laws_markEntryS.f
  refine mark_loop (F := laws_markEntryS.l0) (c := 5) mkEntry hl (by omega) hq hq2 (fun k i x p h0 h1 hi => ?_) (fun k x p => ?_) k hk
  · have h2 : (i : Int) < (x.length : Int) := by omega
    have w1 : wrap64 (p + 1) = p + 1 := w_id (by omega) (by omega)
    have w2 : wrap64 (p + 2) = p + 2 := w_id (by omega) (by omega)
    have w3 : wrap64 (p + 3) = p + 3 := w_id (by omega) (by omega)
    have w4 : wrap64 (p + 4) = p + 4 := w_id (by omega) (by omega)
    have w5 : wrap64 (p + 5) = p + 5 := w_id (by omega) (by omega)
    have v1 : p + 1 + 1 = p + 2 := by omega
    have v2 : p + 2 + 1 = p + 3 := by omega
    have v3 : p + 3 + 1 = p + 4 := by omega
    have v4 : p + 4 + 1 = p + 5 := by omega
    simp only [laws_markEntryS.l0]
    rw [if_pos h2, if_pos (by omega)]
    simp only [Option.bind_some, Int.toNat_natCast, w1, v1, w2, v2, w3, v3, w4, v4, w5, rd_T40, List.set_set]
    simp only [getD_set_self, hi, List.length_set, List.set_set]
    rfl
  · simp only [laws_markEntryS.l0]
    rw [if_neg (by omega)]
theorem heldEntryS_tells (n : Nat) (hn : n ≤ 1099511627776) (q : Int) (hq : 0 ≤ q) (hq2 : q ≤ 1152921504606846976) : ∀ k, n < k → laws_heldEntryS.f k ((List.range n).map fun j => mkEntry (cnt q 5 j)) q = some (cnt q 5 n) := by
  intro k hk
  unfold laws_heldEntryS.f
  refine held_loop (G := laws_heldEntryS.l0) (c := 5) mkEntry hn (by omega) hq hq2 (fun k i x p h0 h1 hi hx => ?_) (fun k x p => ?_) k hk
  · have h2 : (i : Int) < (x.length : Int) := by omega
    have w1 : wrap64 (p + 1) = p + 1 := w_id (by omega) (by omega)
    have w2 : wrap64 (p + 2) = p + 2 := w_id (by omega) (by omega)
    have w3 : wrap64 (p + 3) = p + 3 := w_id (by omega) (by omega)
    have w4 : wrap64 (p + 4) = p + 4 := w_id (by omega) (by omega)
    have w5 : wrap64 (p + 5) = p + 5 := w_id (by omega) (by omega)
    have v1 : p + 1 + 1 = p + 2 := by omega
    have v2 : p + 2 + 1 = p + 3 := by omega
    have v3 : p + 3 + 1 = p + 4 := by omega
    have v4 : p + 4 + 1 = p + 5 := by omega
    have h3 : rd_T40 x (i : Int) = mkEntry p := by rw [← hx]; simp [rd_T40, List.getD, hi]
    simp only [laws_heldEntryS.l0]
    rw [if_pos h2, if_pos (by omega)]
    simp only [h3, w1, v1, w2, v2, w3, v3, w4, v4, w5]
    simp [mkEntry]
  · simp only [laws_heldEntryS.l0]
    rw [if_neg (by omega)]
end Go.Proofs.Ytckcgfpbmojmoaa.G
