/- Plain laws on the helpers of the laws: EntryS. -/
import Derived.Test.YthkifkfnlmjafaaDoorPl
import Derived.Test.YthkifkfnlmjafaaDoorG1
import Derived.Test.YthkifkfnlmjafaaDoorFEqEntry
namespace Go.Proofs.YthkifkfnlmjafaaDoor.G
open Go.RowKit Go.Proofs.YthkifkfnlmjafaaDoorW.PrintWords Go.Proofs.YthkifkfnlmjafaaDoorW.PrintLast Go.Proofs.YthkifkfnlmjafaaDoorW.PrintMore
attribute [local go_sem] max2_int min2_int max_two min_two max_three min_three max_four min_four   -- for this text's walks alone
set_option linter.unusedVariables false
set_option linter.unusedSimpArgs false

open Go.Proofs.YthkifkfnlmjafaaDoor.Wk Go.Proofs.YthkifkfnlmjafaaDoor.Pl

def cEntry (x : S63) : S61 := ⟨x.f0, x.f1, x.f2, x.f3, x.f4⟩
theorem toEntryS_tells (l : List S63) (hl : l.length * 8 ≤ 140737488351232) : ∀ k, l.length < k → laws_toEntryS.f k l = some (l.map cEntry) := by
  intro k hk
  unfold laws_toEntryS.f
  rw [if_pos (by omega), if_pos (by simp only [Int.toNat_natCast]; omega), Int.toNat_natCast]
  have h := fill_loop (F := fun k i x => laws_toEntryS.l0 k l x i) (l := List.replicate l.length z61) (by simp; omega) (fun j => cEntry (l.getD j z63)) (fun k i x hx hi => by
    have h1 : (i : Int) < (l.length : Int) := by simp at hi; omega
    have h2 : (i : Int) < (x.length : Int) := by rw [hx]; simp; simpa using hi
    show laws_toEntryS.l0 (k + 1) l x i = _
    simp only [laws_toEntryS.l0, laws_toEntry.f, Option.bind_some]
    rw [if_pos h1, if_pos (by omega), if_pos h2]
    simp only [Int.toNat_natCast]
    rfl) (fun k x hx => by
    show laws_toEntryS.l0 (k + 1) l x _ = _
    simp only [laws_toEntryS.l0]
    rw [if_neg (by simp)]) k (by simpa using hk)
  simp only [List.length_replicate] at h
  rw [h]
  rw [show ((List.range l.length).map fun j => cEntry (l.getD j z63)) = l.map cEntry from map_range l z63 cEntry]
def mkEntry (p : Int) : S61 := ⟨IntKind.i16.wrap (p), IntKind.i8.wrap (p + 1), IntKind.i8.wrap (p + 2), (p + 3) % 256, IntKind.i16.wrap (p + 4)⟩
end Go.Proofs.YthkifkfnlmjafaaDoor.G
