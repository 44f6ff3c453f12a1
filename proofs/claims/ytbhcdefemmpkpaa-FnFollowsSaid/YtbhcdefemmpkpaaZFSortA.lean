import Derived.Sort.OwnSortedInts
import Derived.Test.YtbhcdefemmpkpaaZSortLay
import Derived.Test.YtbhcdefemmpkpaaZG0
import Derived.Test.YtbhcdefemmpkpaaZWk
namespace Go.Proofs.Ytbhcdefemmpkpaa.G
open Go.RowKit Go.Proofs.YtbhcdefemmpkpaaW.PrintWords Go.Proofs.YtbhcdefemmpkpaaW.PrintLast Go.Proofs.YtbhcdefemmpkpaaW.PrintMore
attribute [local go_sem] max2_int min2_int max_two min_two max_three min_three max_four min_four
set_option linter.unusedVariables false
set_option linter.unusedSimpArgs false
open Go.Shelf Go.Sort Go.Proofs.Ytbhcdefemmpkpaa.Wk
theorem sort_int64 (blk off cap : Nat) (zs : List Int) (w : World) (hH : Holds (Value.int .i64) w blk off zs.toArray) (hblk : blk < w.heap.size) (hsz : zs.length < 4611686018427387904) :
    Calls Try.prog 67 #[.slice (some ⟨blk, off, none⟩) zs.length cap] w fun e w' =>
      e = .returned (.tuple #[]) ∧ ∃ n os, w' = grow (putRow (Value.int .i64) (Sort.ahead w n) blk off (zs.mergeSort fun x y => decide (x ≤ y)).toArray) os :=
  AnyM.slices_Sort_int Try.sortA blk off cap zs w hH hblk hsz
theorem compact_int64 (blk off cap : Nat) (zs : List Int) (w : World) (hH : Holds (Value.int .i64) w blk off zs.toArray) (hsz : zs.length ≤ 9223372036854775807) (hcap : zs.length ≤ cap) :
    Calls Try.prog 68 #[.slice (some ⟨blk, off, none⟩) zs.length cap] w fun e w' => e = .returned (.slice (some ⟨blk, off, none⟩) (Lib.compact zs).length cap) ∧ ∃ q, w' = putRow (Value.int .i64) (Sort.ahead w q) blk off (Lib.compact zs ++ List.replicate (zs.length - (Lib.compact zs).length) 0).toArray :=
  AnyG.slices_Compact_int Try.compA blk off cap zs w hH hsz hcap
theorem compact_int64_empty (a : Option Addr) (cap : Nat) (w : World) : Calls Try.prog 68 #[.slice a 0 cap] w fun e w' => e = .returned (.slice a 0 cap) ∧ w' = w := AnyG.slices_Compact_int_empty Try.compA a cap w
theorem sort_int64_none (p : Option Addr) (cap : Nat) (w : World) : Calls Try.prog 67 #[.slice p 0 cap] w fun e w' => e = .returned (.tuple #[]) ∧ w' = w := AnyM.slices_Sort_int_none Try.sortA p cap w
namespace SortA
def sorted (l : List Int) : List Int := l.mergeSort fun x y => decide (x ≤ y)
theorem sorted_len (l : List Int) : (sorted l).length = l.length := List.length_mergeSort l
def SV (base : Nat) (W : World) (v : Value) (l : List Int) : Prop := ∃ A c, v = .slice A l.length c ∧ (l = [] ∨ ∃ g, A = some ⟨g, 0, none⟩ ∧ base ≤ g ∧ g < W.heap.size ∧ l.length ≤ c ∧ Holds (Value.int .i64) W g 0 l.toArray)
theorem sort (base : Nat) (W : World) (P : Nat → Prop) (v : Value) (l : List Int) (h : Kd.R (Kd.int .i64) 2 W base P v l) (hl : l.length < 4611686018427387904) (hb : base ≤ W.heap.size) :
    Calls Try.prog 67 #[v] W fun e w' => e = .returned (.tuple #[]) ∧ SV base w' v (sorted l) ∧ Below base W w' := by
  rcases Nat.eq_zero_or_pos l.length with h0 | hp
  · obtain rfl : l = [] := List.length_eq_zero_iff.1 h0
    obtain ⟨A, c, rfl⟩ := Kd.R_slice h
    refine (sort_int64_none A c W).mono ?_
    rintro e w' ⟨rfl, rfl⟩
    exact ⟨rfl, ⟨A, c, by rw [sorted_len], Or.inl (List.length_eq_zero_iff.1 (by rw [sorted_len]; rfl))⟩, Below.refl _ _⟩
  · obtain ⟨g, c, rfl, hg, hgl, _⟩ := Kd.R_form h hp
    have hc := (Kd.R_reads' h).2.1
    have hH : Holds (Value.int .i64) W g 0 l.toArray := by
      intro j hj
      have hj' : j < l.length := by simpa using hj
      obtain ⟨h1, h2⟩ := Kd.R_cell (0 : Int) h (j : Int) (by omega) (by omega)
      rw [Int.toNat_natCast] at h1 h2
      rw [Nat.zero_add]
      refine ⟨?_, h2⟩
      rw [h1]
      simp [rdOf, hj']
    refine (sort_int64 g 0 c l W hH hgl hl).mono ?_
    rintro e w' ⟨rfl, n, os, rfl⟩
    refine ⟨rfl, ⟨_, c, by rw [sorted_len], Or.inr ⟨g, rfl, hg, ?_, by rw [sorted_len]; exact hc, ?_⟩⟩, ?_⟩
    · rw [size_grow, size_putRow]
      show g < W.heap.size + os.size
      omega
    · have h3 := holds_putRow (Value.int .i64) (Sort.ahead W n) g 0 l.toArray (sorted l).toArray hH (by simp [sorted_len])
      intro j hj
      obtain ⟨h4, h5⟩ := h3 j hj
      have hlt : g < (putRow (Value.int .i64) (Sort.ahead W n) g 0 (sorted l).toArray).heap.size := by rw [size_putRow]; exact hgl
      have hB : Below (putRow (Value.int .i64) (Sort.ahead W n) g 0 (sorted l).toArray).heap.size (putRow (Value.int .i64) (Sort.ahead W n) g 0 (sorted l).toArray) (grow (putRow (Value.int .i64) (Sort.ahead W n) g 0 (sorted l).toArray) os) :=
        ⟨rfl, rfl, rfl, by rw [size_grow]; omega, fun i hi => heap_grow_old _ _ hi⟩
      exact ⟨(hB.cell (p := ⟨g, 0 + j, none⟩) hlt).trans h4, (hB.frozen (p := ⟨g, 0 + j, none⟩) hlt).trans h5⟩
    · exact pw_below_grown (Below.refl base W) _ hb (grownBy_sortedI _) (fun k e => by injection e with e; omega)
theorem compact (base : Nat) (W : World) (v : Value) (l : List Int) (h : SV base W v l) (hl : l.length ≤ 9223372036854775807) (hb : base ≤ W.heap.size) :
    Calls Try.prog 68 #[v] W fun e w' => ∃ A c, e = .returned (.slice A (Lib.compact l).length c) ∧ Below base W w' := by
  obtain ⟨A, c, rfl, h⟩ := h
  rcases h with rfl | ⟨g, rfl, hg, hgl, hc, hH⟩
  · refine (compact_int64_empty A c W).mono ?_
    rintro e w' ⟨rfl, rfl⟩
    exact ⟨A, c, rfl, Below.refl _ _⟩
  · refine (compact_int64 g 0 c l W hH hl hc).mono ?_
    rintro e w' ⟨rfl, q, rfl⟩
    refine ⟨_, c, rfl, ?_⟩
    have h2 := grownBy_sortedI (w := W) (g := g) (n := q) (os := #[]) (Lib.compact l ++ List.replicate (l.length - (Lib.compact l).length) 0).toArray
    rw [grow_empty] at h2
    exact pw_below_grown (Below.refl base W) _ hb h2 (fun k e => by injection e with e; omega)
end SortA
end Go.Proofs.Ytbhcdefemmpkpaa.G
