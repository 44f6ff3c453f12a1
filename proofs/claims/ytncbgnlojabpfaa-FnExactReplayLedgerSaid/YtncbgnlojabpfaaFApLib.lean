/- A row of holdings of the call's own, written field by field; and what the letters of a world may be. -/
import Derived.Test.YtncbgnlojabpfaaG0
import Derived.Test.YtncbgnlojabpfaaWk
import Derived.Test.YtncbgnlojabpfaaFCloneHold
import Derived.Test.YtncbgnlojabpfaaFHeld
namespace Go.Proofs.Ytncbgnlojabpfaa.G
open Go.RowKit Go.Proofs.YtncbgnlojabpfaaW.PrintWords Go.Proofs.YtncbgnlojabpfaaW.PrintLast Go.Proofs.YtncbgnlojabpfaaW.PrintMore
attribute [local go_sem] max2_int min2_int max_two min_two max_three min_three max_four min_four   -- for this text's walks alone
set_option linter.unusedVariables false
set_option linter.unusedSimpArgs false

open Go.Proofs.Ytncbgnlojabpfaa.Wk
namespace Ap

abbrev H := S71
abbrev R (W : World) (base g cap : Nat) (xs : List H) : Prop := Kd.R k71 71 W base (fun _ => True) (.slice (some ⟨g, 0, none⟩) xs.length cap) xs
theorem relet {P : Program} {md : Region.Mode} {ops : Array Oper} {Q : Exit → Act → World → Prop} {S : World → Prop} {ds : List Nat} {fuel : Nat} {l : Array Bool} {a : Act} {W : World} (F : World → Prop) (hF : F W) (h : ∀ w', F w' → wpAnyLast P md ops Q S ds fuel l a w') : wpAnyLast P md ops Q S ds fuel l a W := h W hF

theorem reletC {P : Program} {c : Code} {Q : Exit → Act → World → Prop} {a : Act} {W : World} (F : World → Prop) (hF : F W) (h : ∀ w', F w' → Code.wp P c Q a w') : Code.wp P c Q a W := h W hF
theorem reletE {K : Act → World → Prop} {Q : Exit → Act → World → Prop} {e : Exit} {a : Act} {W : World} (F : World → Prop) (hF : F W) (h : ∀ w', F w' → Exit.then K Q e a w') : Exit.then K Q e a W := h W hF
theorem reletI {n : Nat} {K : Exit → Act → World → Prop} {e : Exit} {a : Act} {W : World} (F : World → Prop) (hF : F W) (h : ∀ w', F w' → Exit.inBlock n K e a w') : Exit.inBlock n K e a W := h W hF
theorem cells {W : World} {base g cap : Nat} {xs : List H} (h : R W base g cap xs) {i : Nat} (hi : i < xs.length) :
    W.cell? ⟨g, i * 5, none⟩ = some (.int .i64 (xs.getD i z71).f0) ∧ W.cell? ⟨g, i * 5 + 1, none⟩ = some (.int .i64 (xs.getD i z71).f1) ∧ W.cell? ⟨g, i * 5 + 2, none⟩ = some (.int .i64 (xs.getD i z71).f2) ∧ W.cell? ⟨g, i * 5 + 3, none⟩ = some (.int .i64 (xs.getD i z71).f3) ∧ W.cell? ⟨g, i * 5 + 4, none⟩ = some (.int .i64 (xs.getD i z71).f4) ∧ ∀ j, W.frozen? ⟨g, j, none⟩ = false := by
  obtain ⟨c, hcl, hM, hcc, hfr⟩ := Kd.R_elem h z71 (i : Int) (by omega) (by omega)
  obtain rfl := k71_openM hM
  refine ⟨hcc 0 _ rfl, hcc 1 _ rfl, hcc 2 _ rfl, hcc 3 _ rfl, hcc 4 _ rfl, fun j => ?_⟩
  obtain ⟨g', cap', e, _, _, cells, hc⟩ := Kd.R_form h (by omega)
  injection e with e1 _ _
  injection e1 with e1
  injection e1 with e1
  subst e1
  exact blk_frozen hc j
theorem put {W : World} {base g cap : Nat} {xs : List H} (h : R W base g cap xs) {i : Nat} (hi : i < xs.length) (j : Nat) (x : Int) (y : H)
    (hy : [Value.int .i64 y.f0, .int .i64 y.f1, .int .i64 y.f2, .int .i64 y.f3, .int .i64 y.f4] = [Value.int .i64 (xs.getD i z71).f0, .int .i64 (xs.getD i z71).f1, .int .i64 (xs.getD i z71).f2, .int .i64 (xs.getD i z71).f3, .int .i64 (xs.getD i z71).f4].take j ++ [.int .i64 x] ++ [Value.int .i64 (xs.getD i z71).f0, .int .i64 (xs.getD i z71).f1, .int .i64 (xs.getD i z71).f2, .int .i64 (xs.getD i z71).f3, .int .i64 (xs.getD i z71).f4].drop (j + 1)) (hj : j < 5) :
    R (W.setCell ⟨g, i * 5 + j, none⟩ (.int .i64 x)) base g cap (xs.set i y) := by
  obtain ⟨c, hcl, hM, hcc, hfr⟩ := Kd.R_elem h z71 (i : Int) (by omega) (by omega)
  have e := k71_openM hM
  have := (Kd.R_seg h (i : Int) (by omega) (by omega) (c := c) (seg := [.int .i64 x]) (j := j) hcl hcc (by show j + 1 ≤ 5; omega) (x' := y) (okp := fun k => True ∧ k ≠ g) (by
    rw [e]
    show k71.M W base _ y (List.take j [Value.int .i64 (xs.getD i z71).f0, .int .i64 (xs.getD i z71).f1, .int .i64 (xs.getD i z71).f2, .int .i64 (xs.getD i z71).f3, .int .i64 (xs.getD i z71).f4] ++ [.int .i64 x] ++ List.drop (j + 1) [Value.int .i64 (xs.getD i z71).f0, .int .i64 (xs.getD i z71).f1, .int .i64 (xs.getD i z71).f2, .int .i64 (xs.getD i z71).f3, .int .i64 (xs.getD i z71).f4])
    rw [← hy]
    exact k71_mkM W base _ y) (fun k hk => hk)).1
  show Kd.R _ _ _ _ _ (.slice _ (xs.set i y).length cap) _
  rw [List.length_set]
  exact this
theorem base_le {W : World} {base g cap : Nat} {xs : List H} (h : R W base g cap xs) : base ≤ g := Kd.R_base h g (by simp [Value.ownBlock])
theorem put0 {W : World} {base g cap : Nat} {xs : List H} (h : R W base g cap xs) {i : Nat} (hi : i < xs.length) (x : Int) {y : H} (hy : xs.getD i z71 = y) : R (W.setCell ⟨g, i * 5, none⟩ (.int .i64 x)) base g cap (xs.set i ⟨x, y.f1, y.f2, y.f3, y.f4⟩) := put h hi 0 x _ (by rw [hy]; rfl) (by omega)
theorem put1 {W : World} {base g cap : Nat} {xs : List H} (h : R W base g cap xs) {i : Nat} (hi : i < xs.length) (x : Int) {y : H} (hy : xs.getD i z71 = y) : R (W.setCell ⟨g, i * 5 + 1, none⟩ (.int .i64 x)) base g cap (xs.set i ⟨y.f0, x, y.f2, y.f3, y.f4⟩) := put h hi 1 x _ (by rw [hy]; rfl) (by omega)
theorem put2 {W : World} {base g cap : Nat} {xs : List H} (h : R W base g cap xs) {i : Nat} (hi : i < xs.length) (x : Int) {y : H} (hy : xs.getD i z71 = y) : R (W.setCell ⟨g, i * 5 + 2, none⟩ (.int .i64 x)) base g cap (xs.set i ⟨y.f0, y.f1, x, y.f3, y.f4⟩) := put h hi 2 x _ (by rw [hy]; rfl) (by omega)
theorem put3 {W : World} {base g cap : Nat} {xs : List H} (h : R W base g cap xs) {i : Nat} (hi : i < xs.length) (x : Int) {y : H} (hy : xs.getD i z71 = y) : R (W.setCell ⟨g, i * 5 + 3, none⟩ (.int .i64 x)) base g cap (xs.set i ⟨y.f0, y.f1, y.f2, x, y.f4⟩) := put h hi 3 x _ (by rw [hy]; rfl) (by omega)
theorem put4 {W : World} {base g cap : Nat} {xs : List H} (h : R W base g cap xs) {i : Nat} (hi : i < xs.length) (x : Int) {y : H} (hy : xs.getD i z71 = y) : R (W.setCell ⟨g, i * 5 + 4, none⟩ (.int .i64 x)) base g cap (xs.set i ⟨y.f0, y.f1, y.f2, y.f3, x⟩) := put h hi 4 x _ (by rw [hy]; rfl) (by omega)

/-- The call's state: its row of holdings, the boxes of the prices and of the entry. -/
structure St (w W : World) (g cap : Nat) (xs : List H) (p0 p1 e1 e2 e3 e4 : Int) : Prop where
  r : R W (w.heap.size + 2) g cap xs
  b : Below w.heap.size w W
  c0 : W.cell? ⟨w.heap.size, 0, none⟩ = some (.int .i16 p0)
  c1 : W.cell? ⟨w.heap.size, 1, none⟩ = some (.int .i16 p1)
  d1 : W.cell? ⟨w.heap.size + 1, 1, none⟩ = some (.int .i8 e1)
  d2 : W.cell? ⟨w.heap.size + 1, 2, none⟩ = some (.int .i8 e2)
  d3 : W.cell? ⟨w.heap.size + 1, 3, none⟩ = some (.int .u8 e3)
  d4 : W.cell? ⟨w.heap.size + 1, 4, none⟩ = some (.int .i16 e4)
section
variable {w W : World} {g cap : Nat} {xs : List H} {p0 p1 e1 e2 e3 e4 : Int}
theorem St.drew (h : St w W g cap xs p0 p1 e1 e2 e3 e4) : St w W.drew g cap xs p0 p1 e1 e2 e3 e4 := ⟨Kd.R_drew h.r, below_drew1 h.b, h.c0, h.c1, h.d1, h.d2, h.d3, h.d4⟩
theorem St.drewN (h : St w W g cap xs p0 p1 e1 e2 e3 e4) (n : Nat) : St w (W.drewN n) g cap xs p0 p1 e1 e2 e3 e4 := ⟨Kd.R_drewN h.r n, pw_below_drewN h.b n, h.c0, h.c1, h.d1, h.d2, h.d3, h.d4⟩
theorem St.at (h : St w W g cap xs p0 p1 e1 e2 e3 e4) {o : Nat} {u : Value} {ys : List H} (hr : R (W.setCell ⟨g, o, none⟩ u) (w.heap.size + 2) g cap ys) : St w (W.setCell ⟨g, o, none⟩ u) g cap ys p0 p1 e1 e2 e3 e4 := by
  have hg := base_le h.r
  have hb : Below (w.heap.size + 2) W (W.setCell ⟨g, o, none⟩ u) := (Below.refl _ _).setCell hg _
  exact ⟨hr, h.b.trans (hb.mono (by omega)), (hb.cell (p := ⟨w.heap.size, 0, none⟩) (show w.heap.size < w.heap.size + 2 by omega)).trans h.c0, (hb.cell (p := ⟨w.heap.size, 1, none⟩) (show w.heap.size < w.heap.size + 2 by omega)).trans h.c1,
    (hb.cell (p := ⟨w.heap.size + 1, 1, none⟩) (show w.heap.size + 1 < w.heap.size + 2 by omega)).trans h.d1, (hb.cell (p := ⟨w.heap.size + 1, 2, none⟩) (show w.heap.size + 1 < w.heap.size + 2 by omega)).trans h.d2, (hb.cell (p := ⟨w.heap.size + 1, 3, none⟩) (show w.heap.size + 1 < w.heap.size + 2 by omega)).trans h.d3, (hb.cell (p := ⟨w.heap.size + 1, 4, none⟩) (show w.heap.size + 1 < w.heap.size + 2 by omega)).trans h.d4⟩
end
/-- The reference's call: its row, the box of the prices. -/
structure St2 (w W : World) (g cap : Nat) (xs : List H) (p0 p1 : Int) : Prop where
  r : R W (w.heap.size + 1) g cap xs
  b : Below w.heap.size w W
  c0 : W.cell? ⟨w.heap.size, 0, none⟩ = some (.int .i16 p0)
  c1 : W.cell? ⟨w.heap.size, 1, none⟩ = some (.int .i16 p1)
section
variable {w W : World} {g cap : Nat} {xs : List H} {p0 p1 : Int}
theorem St2.drew (h : St2 w W g cap xs p0 p1) : St2 w W.drew g cap xs p0 p1 := ⟨Kd.R_drew h.r, below_drew1 h.b, h.c0, h.c1⟩
theorem St2.drewN (h : St2 w W g cap xs p0 p1) (n : Nat) : St2 w (W.drewN n) g cap xs p0 p1 := ⟨Kd.R_drewN h.r n, pw_below_drewN h.b n, h.c0, h.c1⟩
theorem St2.at (h : St2 w W g cap xs p0 p1) {o : Nat} {u : Value} {ys : List H} (hr : R (W.setCell ⟨g, o, none⟩ u) (w.heap.size + 1) g cap ys) : St2 w (W.setCell ⟨g, o, none⟩ u) g cap ys p0 p1 := by
  have hg := base_le h.r
  have hb : Below (w.heap.size + 1) W (W.setCell ⟨g, o, none⟩ u) := (Below.refl _ _).setCell hg _
  exact ⟨hr, h.b.trans (hb.mono (by omega)), (hb.cell (p := ⟨w.heap.size, 0, none⟩) (show w.heap.size < w.heap.size + 1 by omega)).trans h.c0, (hb.cell (p := ⟨w.heap.size, 1, none⟩) (show w.heap.size < w.heap.size + 1 by omega)).trans h.c1⟩
end
theorem other {xs : List H} {i j : Nat} (y : H) (h : i ≠ j) {z : H} : (xs.set i y).getD j z = xs.getD j z := by
  simp [List.getD, List.getElem?_set_ne h]
theorem both {xs : List H} {i j : Nat} (h : i ≠ j) (a b c d : H) : ((((xs.set i a).set j b).set i c).set j d) = (xs.set i c).set j d := by
  rw [List.set_comm b c (Ne.symm h), List.set_set, List.set_set]

def take : Nat → H → Int → H
  | 0, h, n => ⟨wrap64 (h.f0 - n), h.f1, h.f2, h.f3, h.f4⟩
  | 1, h, n => ⟨h.f0, wrap64 (h.f1 - n), h.f2, h.f3, h.f4⟩
  | _, h, n => ⟨h.f0, h.f1, wrap64 (h.f2 - n), h.f3, h.f4⟩
def give : Nat → H → Int → H
  | 0, h, n => ⟨wrap64 (h.f0 + n), h.f1, h.f2, h.f3, h.f4⟩
  | 1, h, n => ⟨h.f0, wrap64 (h.f1 + n), h.f2, h.f3, h.f4⟩
  | 2, h, n => ⟨h.f0, h.f1, wrap64 (h.f2 + n), h.f3, h.f4⟩
  | _, h, n => ⟨h.f0, h.f1, h.f2, wrap64 (h.f3 + n), h.f4⟩
def pay (h : H) (d : Int) : H := ⟨h.f0, h.f1, h.f2, h.f3, wrap64 (h.f4 + d)⟩
def paid (h : H) (d : Int) : H := ⟨h.f0, h.f1, h.f2, h.f3, wrap64 (h.f4 - d)⟩
def fromA (k : Nat) (l : List H) (f : Nat) (n pr : Int) : H := pay (take k (l.getD f z71) n) (wrap64 (n * pr))
def toA (k : Nat) (l : List H) (t : Nat) (n pr : Int) : H := paid (give k (l.getD t z71) n) (wrap64 (n * pr))
def fromB (j : Nat) (l : List H) (f : Nat) (n : Int) : H := give j (take 0 (l.getD f z71) n) n
/-- What goes from one to the other one. -/
def moveA (k : Nat) (l : List H) (f t : Nat) (n pr : Int) : List H × Int := if (hB (fromA k l f n pr) && hB (toA k l t n pr)) = true then ((l.set f (fromA k l f n pr)).set t (toA k l t n pr), 0) else ([], 3)
/-- What one drinks or breaks. -/
def moveB (j : Nat) (l : List H) (f : Nat) (n : Int) : List H × Int := if hB (fromB j l f n) = true then (l.set f (fromB j l f n), 0) else ([], 3)
end Ap
end Go.Proofs.Ytncbgnlojabpfaa.G
