/- impl.groupsOf and its closure that calls itself: out of the printed text of the closure as a plain function, by wip/tools/groups.py. The numbers are those of the seat of FnExactFewestPayments and FnPayments. -/
import Derived.Test.YtljkamjdpjaooaaG0
import Derived.Test.YtljkamjdpjaooaaWk
import Derived.Test.YtljkamjdpjaooaaFCloneInt
import Derived.Laws.EntriesVeiled
namespace Go.Proofs.Ytljkamjdpjaooaa.G
open Go.RowKit Go.Proofs.YtljkamjdpjaooaaW.PrintWords Go.Proofs.YtljkamjdpjaooaaW.PrintLast Go.Proofs.YtljkamjdpjaooaaW.PrintMore
attribute [local go_sem] max2_int min2_int max_two min_two max_three min_three max_four min_four   -- for this text's walks alone
set_option linter.unusedVariables false
set_option linter.unusedSimpArgs false

open Go.Proofs.Ytljkamjdpjaooaa.Wk
namespace Grp
theorem reletC {P : Program} {c : Code} {Q : Exit → Act → World → Prop} {a : Act} {W : World} (F : World → Prop) (hF : F W) (h : ∀ w', F w' → Code.wp P c Q a w') : Code.wp P c Q a W := h W hF
theorem reletE {K : Act → World → Prop} {Q : Exit → Act → World → Prop} {e : Exit} {a : Act} {W : World} (F : World → Prop) (hF : F W) (h : ∀ w', F w' → Exit.then K Q e a w') : Exit.then K Q e a W := h W hF
theorem reletI {n : Nat} {K : Exit → Act → World → Prop} {e : Exit} {a : Act} {W : World} (F : World → Prop) (hF : F W) (h : ∀ w', F w' → Exit.inBlock n K e a w') : Exit.inBlock n K e a W := h W hF
/-- What the closure leans on: the boxes of the parties, the nets, itself, and of the best groups so far. -/
structure Env (W : World) (bp bn bb bx B : Nat) (A2 : Option Addr) (c2 : Nat) (l2 : List Int) (A3 : Option Addr) (c3 : Nat) (l3 : List Int) (best : List (List Int)) : Prop where
  p : W.heap[bp]? = some (.cells #[.slice A2 l2.length c2] 48 (0, 0))
  n : W.heap[bn]? = some (.cells #[.slice A3 l3.length c3] 22 (0, 0))
  x : W.heap[bx]? = some (.cells #[.func (.func 42) #[] #[.pointer (some ⟨bp, 0, none⟩), .pointer (some ⟨bn, 0, none⟩), .pointer (some ⟨bb, 0, none⟩), .pointer (some ⟨bx, 0, none⟩)]] 68 (0, 0))
  b : ∃ Ab cb, W.heap[bb]? = some (.cells #[.slice Ab best.length cb] 52 (0, 0)) ∧ best.length ≤ cb ∧ Kd.F (Kd.slice 3 (Kd.int .i64)) W (fun k => B ≤ k ∧ k ≠ bb) Ab best.length best
  f2 : Kd.F (Kd.int .i64) W (fun k => k ≠ bb) A2 l2.length l2
  f3 : Kd.F (Kd.int .i64) W (fun k => k ≠ bb) A3 l3.length l3
  h2 : l2.length ≤ c2
  h3 : l3.length ≤ c3
  np : bp ≠ bb
  nn : bn ≠ bb
  nx : bx ≠ bb
  sz : B ≤ W.heap.size
section
variable {W W1 : World} {bp bn bb bx B : Nat} {A2 : Option Addr} {c2 : Nat} {l2 : List Int} {A3 : Option Addr} {c3 : Nat} {l3 : List Int} {best ys : List (List Int)}
theorem Env.below (h : Env W bp bn bb bx B A2 c2 l2 A3 c3 l3 best) (hb : Below W.heap.size W W1) : Env W1 bp bn bb bx B A2 c2 l2 A3 c3 l3 best := by
  obtain ⟨Ab, cb, h1, h2, h3⟩ := h.b
  exact ⟨blk_below h.p hb, blk_below h.n hb, blk_below h.x hb, ⟨Ab, cb, blk_below h1 hb, h2, Kd.F_below h3 hb⟩, Kd.F_below h.f2 hb, Kd.F_below h.f3 hb, h.h2, h.h3, h.np, h.nn, h.nx, Nat.le_trans h.sz hb.size⟩
theorem Env.set {A : Option Addr} {c : Nat} (h : Env W bp bn bb bx B A2 c2 l2 A3 c3 l3 best) (hf : Kd.F (Kd.slice 3 (Kd.int .i64)) W (fun k => B ≤ k ∧ k ≠ bb) A ys.length ys) (hc : ys.length ≤ c) : Env (W.setCell ⟨bb, 0, none⟩ (.slice A ys.length c)) bp bn bb bx B A2 c2 l2 A3 c3 l3 ys := by
  obtain ⟨Ab, cb, h1, h2, h3⟩ := h.b
  exact ⟨blk_far h.p h.np _, blk_far h.n h.nn _, blk_far h.x h.nx _, ⟨A, c, blk_put h1 0 _ rfl, hc, Kd.F_far hf (fun _ hk => hk.2) _⟩, Kd.F_far h.f2 (fun _ hk => hk) _, Kd.F_far h.f3 (fun _ hk => hk) _, h.h2, h.h3, h.np, h.nn, h.nx, by simpa [World.setCell] using h.sz⟩
theorem Env.pc (h : Env W bp bn bb bx B A2 c2 l2 A3 c3 l3 best) : W.cell? ⟨bp, 0, none⟩ = some (.slice A2 l2.length c2) := (blk_cell h.p 0).trans rfl
theorem Env.nc (h : Env W bp bn bb bx B A2 c2 l2 A3 c3 l3 best) : W.cell? ⟨bn, 0, none⟩ = some (.slice A3 l3.length c3) := (blk_cell h.n 0).trans rfl
theorem Env.xc (h : Env W bp bn bb bx B A2 c2 l2 A3 c3 l3 best) : W.cell? ⟨bx, 0, none⟩ = some (.func (.func 42) #[] #[.pointer (some ⟨bp, 0, none⟩), .pointer (some ⟨bn, 0, none⟩), .pointer (some ⟨bb, 0, none⟩), .pointer (some ⟨bx, 0, none⟩)]) := (blk_cell h.x 0).trans rfl
theorem Env.own {base : Nat} {A : Option Addr} {n c : Nat} (h : Env W bp bn bb bx B A2 c2 l2 A3 c3 l3 best) (hbase : B ≤ base) (hs : Kd.S (Kd.slice 3 (Kd.int .i64)) 48 W base (fun _ => True) (.slice A n c) ys)   : Kd.F (Kd.slice 3 (Kd.int .i64)) W (fun k => B ≤ k ∧ k ≠ bb) A ys.length ys := by
  obtain ⟨Ab, cb, h1, _, _⟩ := h.b
  have hl := (Kd.S_reads' hs).1
  subst hl
  exact Kd.F_mono (Kd.R_F (Kd.R_types (Kd.R_bound (Kd.S_R hs)) h1 (by decide))) (fun _ hk => ⟨Nat.le_trans hbase hk.1.2.1, hk.2⟩)
end
/-- Nothing that was there has turned, but for one block. -/
structure Fr (w w' : World) (g : Nat) : Prop where
  os : w'.os = w.os
  tape : w'.tape = w.tape
  output : w'.output = w.output
  size : w.heap.size ≤ w'.heap.size
  block : ∀ k, k < w.heap.size → k ≠ g → w'.heap[k]? = w.heap[k]?
section
variable {w w1 w2 : World} {g : Nat}
theorem Fr.refl (w : World) (g : Nat) : Fr w w g := ⟨rfl, rfl, rfl, Nat.le_refl _, fun _ _ _ => rfl⟩
theorem Fr.trans (h : Fr w w1 g) (k : Fr w1 w2 g) : Fr w w2 g := ⟨k.os.trans h.os, k.tape.trans h.tape, k.output.trans h.output, Nat.le_trans h.size k.size, fun i hi hne => (k.block i (Nat.lt_of_lt_of_le hi h.size) hne).trans (h.block i hi hne)⟩
theorem Fr.of_below (h : Below w.heap.size w w1) (g : Nat) : Fr w w1 g := ⟨h.os, h.tape, h.output, h.size, fun k hk _ => h.block k hk⟩
theorem Fr.set (h : Fr w w1 g) (v : Value) : Fr w (w1.setCell ⟨g, 0, none⟩ v) g := h.trans ⟨rfl, rfl, rfl, by simp [World.setCell], fun k _ hne => Below.heap_setCell _ _ _ _ hne⟩
theorem Fr.keep (h : Fr w w1 g) : KeepBut w w1 g none := ⟨h.size, fun i hi hne _ => h.block i hi hne⟩
theorem Fr.below {B : Nat} (h : Fr w w1 g) (hB : B ≤ w.heap.size) (hg : B ≤ g) : Below B w w1 := ⟨h.os, h.tape, h.output, h.size, fun k hk => h.block k (by omega) (by omega)⟩
end
end Grp
/-! ### grp: function 25 -/
mutual
def grp.l0 : Nat → List (List Int) → List Int → List (List Int) → Int → Int → List (List Int) → Option (List (List Int))
  | 0, _, _, _, _, _, _ => none
  | k + 1, x0, x3, x21, x22, x23, x95 => if x23 < x22 then (if 0 ≤ x23 then (if x23 < (x21.length : Int) then (grp.l1 k x0 x3 0 x21 x22 x23 (rd_L5 x21 x23) ((rd_L5 x21 x23).length : Int) 0 x95) else (none)) else (none)) else (if (x0.length : Int) > (x95.length : Int) then (some x0) else (some x95))
def grp.l1 : Nat → List (List Int) → List Int → Int → List (List Int) → Int → Int → List Int → Int → Int → List (List Int) → Option (List (List Int))
  | 0, _, _, _, _, _, _, _, _, _, _ => none
  | k + 1, x0, x3, x10, x21, x22, x23, x27, x28, x29, x95 => if x29 < x28 then (if 0 ≤ x29 then (if x29 < (x27.length : Int) then (if 0 ≤ (rd x27 x29) then (if (rd x27 x29) < (x3.length : Int) then (grp.l1 k x0 x3 (wrap64 (x10 + (rd x3 (rd x27 x29)))) x21 x22 x23 x27 x28 (wrap64 (x29 + 1)) x95) else (none)) else (none)) else (none)) else (none)) else (if x10 = 0 then (grp.l0 k x0 x3 x21 x22 (wrap64 (x23 + 1)) x95) else (some x95))
def grp.l2 : Nat → List (List Int) → Int → List Int → List Int → Int → Int → List (List Int) → Option (List (List Int))
  | 0, _, _, _, _, _, _, _ => none
  | k + 1, x0, x1, x2, x3, x51, x52, x95 => if x52 < x51 then (grp.l3 k x0 x1 x2 x3 x52 (([] : List (List Int))) x51 x52 x0 (x0.length : Int) 0 x95) else (some x95)
def grp.l3 : Nat → List (List Int) → Int → List Int → List Int → Int → List (List Int) → Int → Int → List (List Int) → Int → Int → List (List Int) → Option (List (List Int))
  | 0, _, _, _, _, _, _, _, _, _, _, _, _ => none
  | k + 1, x0, x1, x2, x3, x13, x14, x51, x52, x56, x57, x58, x95 => if x58 < x57 then (if 0 ≤ x58 then (if x58 < (x56.length : Int) then ((cloneInt.f (rd_L5 x56 x58)).bind fun t212 => (if x14.length < 5864062014805 then (grp.l3 k x0 x1 x2 x3 x13 (x14 ++ [t212]) x51 x52 x56 x57 (wrap64 (x58 + 1)) x95) else (none))) else (none)) else (none)) else (if x13 = (x0.length : Int) then (if x14.length < 5864062014805 then ((some (x14 ++ [(([] : List Int))] : List (List Int))).bind fun y221 => (if 0 ≤ x13 then (if x13 < (y221.length : Int) then (if 0 ≤ x1 then (if x1 < (x2.length : Int) then (if (rd_L5 y221 x13).length < 17592186044416 then ((grp.f k (y221.set (x13 : Int).toNat ((rd_L5 y221 x13) ++ [rd x2 x1])) (wrap64 (x1 + 1)) x2 x3 x95).bind fun t230 => (grp.l2 k x0 x1 x2 x3 x51 (wrap64 (x52 + 1)) t230)) else (none)) else (none)) else (none)) else (none)) else (none))) else (none)) else (if 0 ≤ x13 then (if x13 < (x14.length : Int) then (if 0 ≤ x1 then (if x1 < (x2.length : Int) then (if (rd_L5 x14 x13).length < 17592186044416 then ((grp.f k (x14.set (x13 : Int).toNat ((rd_L5 x14 x13) ++ [rd x2 x1])) (wrap64 (x1 + 1)) x2 x3 x95).bind fun t237 => (grp.l2 k x0 x1 x2 x3 x51 (wrap64 (x52 + 1)) t237)) else (none)) else (none)) else (none)) else (none)) else (none)))
def grp.f : Nat → List (List Int) → Int → List Int → List Int → List (List Int) → Option (List (List Int))
  | 0, _, _, _, _, _ => none
  | k + 1, l0, a1, l2, l3, a4 => if a1 = (l2.length : Int) then (grp.l0 k l0 l3 l0 (l0.length : Int) 0 a4) else (grp.l2 k l0 a1 l2 l3 (wrap64 ((l0.length : Int) + 1)) 0 a4)
end
theorem grp.mono_l : ∀ k, (∀ y0 y1 y2 y3 y4, LeO (grp.f k y0 y1 y2 y3 y4) (grp.f (k + 1) y0 y1 y2 y3 y4)) ∧ (∀ y0 y1 y2 y3 y4 y5, LeO (grp.l0 k y0 y1 y2 y3 y4 y5) (grp.l0 (k + 1) y0 y1 y2 y3 y4 y5)) ∧ (∀ y0 y1 y2 y3 y4 y5 y6 y7 y8 y9, LeO (grp.l1 k y0 y1 y2 y3 y4 y5 y6 y7 y8 y9) (grp.l1 (k + 1) y0 y1 y2 y3 y4 y5 y6 y7 y8 y9)) ∧ (∀ y0 y1 y2 y3 y4 y5 y6, LeO (grp.l2 k y0 y1 y2 y3 y4 y5 y6) (grp.l2 (k + 1) y0 y1 y2 y3 y4 y5 y6)) ∧ (∀ y0 y1 y2 y3 y4 y5 y6 y7 y8 y9 y10 y11, LeO (grp.l3 k y0 y1 y2 y3 y4 y5 y6 y7 y8 y9 y10 y11) (grp.l3 (k + 1) y0 y1 y2 y3 y4 y5 y6 y7 y8 y9 y10 y11))
  | 0 => ⟨fun _ _ _ _ _ r h => by simp [grp.f] at h, fun _ _ _ _ _ _ r h => by simp [grp.l0] at h, fun _ _ _ _ _ _ _ _ _ _ r h => by simp [grp.l1] at h, fun _ _ _ _ _ _ _ r h => by simp [grp.l2] at h, fun _ _ _ _ _ _ _ _ _ _ _ _ r h => by simp [grp.l3] at h⟩
  | k + 1 => by
    obtain ⟨ih0, ih1, ih2, ih3, ih4⟩ := grp.mono_l k
    refine ⟨?_, ?_, ?_, ?_, ?_⟩
    · intro y0 y1 y2 y3 y4
      unfold grp.f
      repeat' first
      | (with_reducible exact ih0 _ _ _ _ _)
      | (with_reducible exact ih1 _ _ _ _ _ _)
      | (with_reducible exact ih2 _ _ _ _ _ _ _ _ _ _)
      | (with_reducible exact ih3 _ _ _ _ _ _ _)
      | (with_reducible exact ih4 _ _ _ _ _ _ _ _ _ _ _ _)
      | (with_reducible exact LeO.refl _)
      | (with_reducible exact LeO.none _)
      | (with_reducible refine LeO.ite ?_ ?_)
      | (with_reducible refine LeO.bind ?_ (fun _ => ?_))
      | exact ih0 _ _ _ _ _
      | exact ih1 _ _ _ _ _ _
      | exact ih2 _ _ _ _ _ _ _ _ _ _
      | exact ih3 _ _ _ _ _ _ _
      | exact ih4 _ _ _ _ _ _ _ _ _ _ _ _
      | exact LeO.none _
      | refine LeO.ite ?_ ?_
      | refine LeO.bind ?_ (fun _ => ?_)
    · intro y0 y1 y2 y3 y4 y5
      unfold grp.l0
      repeat' first
      | (with_reducible exact ih0 _ _ _ _ _)
      | (with_reducible exact ih1 _ _ _ _ _ _)
      | (with_reducible exact ih2 _ _ _ _ _ _ _ _ _ _)
      | (with_reducible exact ih3 _ _ _ _ _ _ _)
      | (with_reducible exact ih4 _ _ _ _ _ _ _ _ _ _ _ _)
      | (with_reducible exact LeO.refl _)
      | (with_reducible exact LeO.none _)
      | (with_reducible refine LeO.ite ?_ ?_)
      | (with_reducible refine LeO.bind ?_ (fun _ => ?_))
      | exact ih0 _ _ _ _ _
      | exact ih1 _ _ _ _ _ _
      | exact ih2 _ _ _ _ _ _ _ _ _ _
      | exact ih3 _ _ _ _ _ _ _
      | exact ih4 _ _ _ _ _ _ _ _ _ _ _ _
      | exact LeO.none _
      | refine LeO.ite ?_ ?_
      | refine LeO.bind ?_ (fun _ => ?_)
    · intro y0 y1 y2 y3 y4 y5 y6 y7 y8 y9
      unfold grp.l1
      repeat' first
      | (with_reducible exact ih0 _ _ _ _ _)
      | (with_reducible exact ih1 _ _ _ _ _ _)
      | (with_reducible exact ih2 _ _ _ _ _ _ _ _ _ _)
      | (with_reducible exact ih3 _ _ _ _ _ _ _)
      | (with_reducible exact ih4 _ _ _ _ _ _ _ _ _ _ _ _)
      | (with_reducible exact LeO.refl _)
      | (with_reducible exact LeO.none _)
      | (with_reducible refine LeO.ite ?_ ?_)
      | (with_reducible refine LeO.bind ?_ (fun _ => ?_))
      | exact ih0 _ _ _ _ _
      | exact ih1 _ _ _ _ _ _
      | exact ih2 _ _ _ _ _ _ _ _ _ _
      | exact ih3 _ _ _ _ _ _ _
      | exact ih4 _ _ _ _ _ _ _ _ _ _ _ _
      | exact LeO.none _
      | refine LeO.ite ?_ ?_
      | refine LeO.bind ?_ (fun _ => ?_)
    · intro y0 y1 y2 y3 y4 y5 y6
      unfold grp.l2
      repeat' first
      | (with_reducible exact ih0 _ _ _ _ _)
      | (with_reducible exact ih1 _ _ _ _ _ _)
      | (with_reducible exact ih2 _ _ _ _ _ _ _ _ _ _)
      | (with_reducible exact ih3 _ _ _ _ _ _ _)
      | (with_reducible exact ih4 _ _ _ _ _ _ _ _ _ _ _ _)
      | (with_reducible exact LeO.refl _)
      | (with_reducible exact LeO.none _)
      | (with_reducible refine LeO.ite ?_ ?_)
      | (with_reducible refine LeO.bind ?_ (fun _ => ?_))
      | exact ih0 _ _ _ _ _
      | exact ih1 _ _ _ _ _ _
      | exact ih2 _ _ _ _ _ _ _ _ _ _
      | exact ih3 _ _ _ _ _ _ _
      | exact ih4 _ _ _ _ _ _ _ _ _ _ _ _
      | exact LeO.none _
      | refine LeO.ite ?_ ?_
      | refine LeO.bind ?_ (fun _ => ?_)
    · intro y0 y1 y2 y3 y4 y5 y6 y7 y8 y9 y10 y11
      unfold grp.l3
      repeat' first
      | (with_reducible exact ih0 _ _ _ _ _)
      | (with_reducible exact ih1 _ _ _ _ _ _)
      | (with_reducible exact ih2 _ _ _ _ _ _ _ _ _ _)
      | (with_reducible exact ih3 _ _ _ _ _ _ _)
      | (with_reducible exact ih4 _ _ _ _ _ _ _ _ _ _ _ _)
      | (with_reducible exact LeO.refl _)
      | (with_reducible exact LeO.none _)
      | (with_reducible refine LeO.ite ?_ ?_)
      | (with_reducible refine LeO.bind ?_ (fun _ => ?_))
      | exact ih0 _ _ _ _ _
      | exact ih1 _ _ _ _ _ _
      | exact ih2 _ _ _ _ _ _ _ _ _ _
      | exact ih3 _ _ _ _ _ _ _
      | exact ih4 _ _ _ _ _ _ _ _ _ _ _ _
      | exact LeO.none _
      | refine LeO.ite ?_ ?_
      | refine LeO.bind ?_ (fun _ => ?_)
theorem grp.mono : ∀ a0 a1 a2 a3 a4 k, LeO (grp.f k a0 a1 a2 a3 a4) (grp.f (k + 1) a0 a1 a2 a3 a4) := by
  intro a0 a1 a2 a3 a4 k
  obtain ⟨ih0, ih1, ih2, ih3, ih4⟩ := grp.mono_l k
  exact ih0 a0 a1 a2 a3 a4
def grp.T25 : Bool × List (List Nat × List Nat) := (true, [([], []), ([], []), ([], []), ([], []), ([2, 3], [2, 3]), ([4], [4]), ([], []), ([], []), ([6, 7], [6, 7]), ([8], [8]), ([9], [9]), ([5, 10], [5, 10]), ([0, 1, 0, 1, 2, 3, 4, 5, 6, 7, 8, 9, 10, 11], [0, 1]), ([12, 11, 11, 0, 1, 2, 3, 4, 5, 6, 7, 8, 9, 10, 11], [11, 12])])
def grp.B25 : List Nat := [0, 0, 0, 0, 12, 28, 0, 0, 192, 448, 960, 2044, 4095, 8191]
theorem grp.tab25 : rtab .any (opsOf Try.f42 25) = grp.T25 := by kernel_rfl
theorem grp.bits25 : waitsOk grp.T25.2 grp.B25 = true := by kernel_rfl
set_option maxHeartbeats 16000000 in
set_option maxRecDepth 100000 in
theorem grp.calls (bp bn bb bx B : Nat) (A2 : Option Addr) (c2 : Nat) (l2 : List Int) (A3 : Option Addr) (c3 : Nat) (l3 : List Int) (eg : ∀ args w, (callFunc 42 args).run Try.prog w = .ok (.enter 42 args) w) (k : Nat) : ∀ (A0 : Option Addr) (c0 : Nat) (l0 : List (List Int)) (a1 : Int) (a4 r : List (List Int)) (w : World) (hE : Grp.Env w bp bn bb bx B A2 c2 l2 A3 c3 l3 a4) (hf0 : Kd.F (Kd.slice 3 (Kd.int .i64)) w (fun k => B ≤ k ∧ k ≠ bb) A0 l0.length l0) (hc0 : l0.length ≤ c0) (h : grp.f k l0 a1 l2 l3 a4 = some r),
    Calls Try.prog 42 #[.slice A0 l0.length c0, .int .i64 a1, .pointer (some ⟨bp, 0, none⟩), .pointer (some ⟨bn, 0, none⟩), .pointer (some ⟨bb, 0, none⟩), .pointer (some ⟨bx, 0, none⟩)] w fun e w' => e = .returned (.tuple #[]) ∧ Grp.Env w' bp bn bb bx B A2 c2 l2 A3 c3 l3 r ∧ Grp.Fr w w' bb := by
  induction k using Nat.strongRecOn with
  | _ k ih =>
  intro A0 c0 l0 a1 a4 r w hE hf0 hc0 h
  cases k with
  | zero => exact absurd h (by simp [grp.f])
  | succ k =>
  simp only [grp.f] at h
  have EG := Aside0.mk eg
  have HE := Aside0.mk hE
  have HF0 := Aside0.mk hf0
  have HC0 := Aside0.mk hc0
  clear hE hf0 hc0 eg
  have HR0 := Aside0.mk (Kd.F_now HF0.out)
  have HR3 := Aside0.mk (Kd.F_now HE.out.f3)
  have HP0 := Lib.hid HE.out.pc
  have HN0 := Lib.hid HE.out.nc
  obtain ⟨Ab, cb, hbb, hcb, hfb⟩ := HE.out.b
  have HBB0 := Lib.hid (show w.cell? ⟨bb, 0, none⟩ = some (.slice Ab a4.length cb) from (blk_cell hbb 0).trans rfl)
  have HBF0 := Lib.hid (show w.frozen? ⟨bb, 0, none⟩ = false from blk_frozen hbb 0)
  clear hbb hcb hfb
  have HB := Aside0.mk (Below.refl w.heap.size w)
  have H : (if a1 = (l2.length : Int) then (grp.l0 k l0 l3 l0 (l0.length : Int) 0 a4) else (grp.l2 k l0 a1 l2 l3 (wrap64 ((l0.length : Int) + 1)) 0 a4)) = some r := h
  clear h
  by_cases c6 : a1 = (l2.length : Int)
  · rw [if_pos c6] at H
    have c6b0 : (a1 == (l2.length : Int)) = true := beq_iff_eq.mpr c6
    have c6b1 : (a1 != (l2.length : Int)) = false := bne_eq_false_iff_eq.mpr c6
    clear c6
    have H' := Aside0.mk H
    clear H
    go_enter Try.func42, Try.ntmps42
    have hP := HP0.out
    go_wp2
    clear hP
    go_loopg [23] k (fun kq v23 w' => ∃ (x23_1 : Int), v23 = .int .i64 x23_1 ∧ Aside0 (grp.l0 kq l0 l3 l0 (l0.length : Int) x23_1 a4 = some r) ∧ Aside0 (kq ≤ k) ∧ Aside0 (Below w.heap.size w w'))
    case atStart => exact ⟨(0), (by first | rfl | (simp; done) | (simp [*]; done)), H', ⟨Nat.le_refl _⟩, ⟨by repeat (first | (with_reducible first | exact HB.out | apply below_alloc | apply pw_below_drewN | apply below_drew1) | exact HB.out)⟩⟩
    case round =>
      clear H'
      try clear c2
      try clear p2
      try clear c3
      try clear c6
      try clear c6b0
      try clear c6b1
      try clear p6
      obtain ⟨x23_1, rfl, HA, HK1, HB⟩ := hrel
      cases gk with
      | zero => exact absurd HA.out (by simp [grp.l0])
      | succ k1 =>
        have H := HA.out
        clear HA
        simp only [grp.l0] at H
        by_cases c7 : x23_1 < (l0.length : Int)
        · rw [if_pos c7] at H
          have c7b0 : decide (x23_1 < (l0.length : Int)) = true := decide_eq_true c7
          clear c7
          by_cases c8 : 0 ≤ x23_1
          · rw [if_pos c8] at H
            have c8b0 : decide (0 ≤ x23_1) = true := decide_eq_true c8
            clear c8
            by_cases c9 : x23_1 < (l0.length : Int)
            · rw [if_pos c9] at H
              have c9b0 : decide (x23_1 < (l0.length : Int)) = true := decide_eq_true c9
              clear c9
              have H' := Aside0.mk H
              clear H
              have p205 : 0 ≤ (x23_1 : Int) := of_decide_eq_true (by first | (with_reducible assumption) | assumption)
              have q205 : x23_1 < (l0.length : Int) := of_decide_eq_true (by first | (with_reducible assumption) | assumption)
              obtain ⟨ad205, A205_0, c205_0, e205, hx205_0, hl205_0, hi205_0⟩ := at_L5 HR0.out x23_1 p205 q205
              cases e205
              (try replace hx205_0 := (HB.out.cell (World.block_lt_of_cell? w _ hx205_0)).trans hx205_0)
              have HR205_0 := Aside0.mk hi205_0
              have HC205_0 := Aside0.mk hl205_0
              clear hi205_0 hl205_0
              replace p205 := eq_true p205
              replace q205 := eq_true q205
              go_wp2
              go_loopg [10, 29] k1 (fun kq v10 v29 w' => ∃ (x10_2 : Int) (x29_2 : Int), v10 = .int .i64 x10_2 ∧ v29 = .int .i64 x29_2 ∧ Aside0 (grp.l1 kq l0 l3 x10_2 l0 (l0.length : Int) x23_1 (rd_L5 l0 x23_1) ((rd_L5 l0 x23_1).length : Int) x29_2 a4 = some r) ∧ Aside0 (kq ≤ k1) ∧ Aside0 (Below w.heap.size w w'))
              case atStart => exact ⟨(0), (0), (by first | rfl | (simp; done) | (simp [*]; done)), (by first | rfl | (simp; done) | (simp [*]; done)), H', ⟨Nat.le_refl _⟩, ⟨by repeat (first | (with_reducible first | exact HB.out | apply below_alloc | apply pw_below_drewN | apply below_drew1) | exact HB.out)⟩⟩
              case round =>
                clear H'
                try clear c2
                try clear p2
                try clear q2
                try clear hx2
                try clear c3
                try clear c6
                try clear c6b0
                try clear c6b1
                try clear p6
                try clear c7
                try clear c7b0
                try clear c8
                try clear c8b0
                try clear c9
                try clear c9b0
                try clear hx205_0
                try clear p2
                try clear p205
                try clear p6
                try clear q205
                obtain ⟨x10_2, x29_2, rfl, rfl, HA, HK2, HB⟩ := hrel
                have hN := (HB.out.cell (World.block_lt_of_cell? w _ HN0.out)).trans HN0.out
                cases gk with
                | zero => exact absurd HA.out (by simp [grp.l1])
                | succ k2 =>
                  have H := HA.out
                  clear HA
                  simp only [grp.l1] at H
                  by_cases c10 : x29_2 < ((rd_L5 l0 x23_1).length : Int)
                  · rw [if_pos c10] at H
                    have c10b0 : decide (x29_2 < ((rd_L5 l0 x23_1).length : Int)) = true := decide_eq_true c10
                    clear c10
                    by_cases c11 : 0 ≤ x29_2
                    · rw [if_pos c11] at H
                      have c11b0 : decide (0 ≤ x29_2) = true := decide_eq_true c11
                      clear c11
                      by_cases c12 : x29_2 < ((rd_L5 l0 x23_1).length : Int)
                      · rw [if_pos c12] at H
                        have c12b0 : decide (x29_2 < ((rd_L5 l0 x23_1).length : Int)) = true := decide_eq_true c12
                        clear c12
                        by_cases c13 : 0 ≤ (rd (rd_L5 l0 x23_1) x29_2)
                        · rw [if_pos c13] at H
                          have c13b0 : decide (0 ≤ (rd (rd_L5 l0 x23_1) x29_2)) = true := decide_eq_true c13
                          clear c13
                          by_cases c14 : (rd (rd_L5 l0 x23_1) x29_2) < (l3.length : Int)
                          · rw [if_pos c14] at H
                            have c14b0 : decide ((rd (rd_L5 l0 x23_1) x29_2) < (l3.length : Int)) = true := decide_eq_true c14
                            clear c14
                            have H' := Aside0.mk H
                            clear H
                            have p206 : 0 ≤ (x29_2 : Int) := of_decide_eq_true (by first | (with_reducible assumption) | assumption)
                            have q206 : x29_2 < ((rd_L5 l0 x23_1).length : Int) := of_decide_eq_true (by first | (with_reducible assumption) | assumption)
                            obtain ⟨ad206, e206, hx206_0⟩ := Kd.at_int HR205_0.out x29_2 p206 q206
                            cases e206
                            (try replace hx206_0 := (HB.out.cell (World.block_lt_of_cell? w _ hx206_0)).trans hx206_0)
                            replace p206 := eq_true p206
                            replace q206 := eq_true q206
                            have p207 : 0 ≤ ((rd (rd_L5 l0 x23_1) x29_2) : Int) := of_decide_eq_true (by first | (with_reducible assumption) | assumption)
                            have q207 : (rd (rd_L5 l0 x23_1) x29_2) < (l3.length : Int) := of_decide_eq_true (by first | (with_reducible assumption) | assumption)
                            obtain ⟨ad207, e207, hx207_0⟩ := Kd.at_int HR3.out (rd (rd_L5 l0 x23_1) x29_2) p207 q207
                            cases e207
                            (try replace hx207_0 := (HB.out.cell (World.block_lt_of_cell? w _ hx207_0)).trans hx207_0)
                            replace p207 := eq_true p207
                            replace q207 := eq_true q207
                            go_wp2
                            go_roundg k2
                            case measure => have := HK1.out; have := HK2.out; omega
                            case rel => exact ⟨(wrap64 (x10_2 + (rd l3 (rd (rd_L5 l0 x23_1) x29_2)))), (wrap64 (x29_2 + 1)), (by first | rfl | (simp; done) | (simp [*]; done)), (by first | rfl | (simp; done) | (simp [*]; done)), H', ⟨by have := HK1.out; have := HK2.out; omega⟩, ⟨by repeat (first | (with_reducible first | exact HB.out | apply below_alloc | apply pw_below_drewN | apply below_drew1) | exact HB.out)⟩⟩
                          · rw [if_neg c14] at H
                            exact absurd H (by simp)
                        · rw [if_neg c13] at H
                          exact absurd H (by simp)
                      · rw [if_neg c12] at H
                        exact absurd H (by simp)
                    · rw [if_neg c11] at H
                      exact absurd H (by simp)
                  · rw [if_neg c10] at H
                    have c10b0 : decide (x29_2 < ((rd_L5 l0 x23_1).length : Int)) = false := decide_eq_false c10
                    clear c10
                    by_cases c15 : x10_2 = 0
                    · rw [if_pos c15] at H
                      have c15b0 : (x10_2 == 0) = true := beq_iff_eq.mpr c15
                      have c15b1 : (x10_2 != 0) = false := bne_eq_false_iff_eq.mpr c15
                      clear c15
                      have H' := Aside0.mk H
                      clear H
                      go_wp2
                      go_roundg k2
                      case measure => have := HK1.out; have := HK2.out; omega
                      case rel => exact ⟨(wrap64 (x23_1 + 1)), (by first | rfl | (simp; done) | (simp [*]; done)), H', ⟨by have := HK1.out; have := HK2.out; omega⟩, ⟨by repeat (first | (with_reducible first | exact HB.out | apply below_alloc | apply pw_below_drewN | apply below_drew1) | exact HB.out)⟩⟩
                    · rw [if_neg c15] at H
                      have c15b0 : (x10_2 == 0) = false := beq_eq_false_iff_ne.mpr c15
                      have c15b1 : (x10_2 != 0) = true := bne_iff_ne.mpr c15
                      obtain rfl := Option.some.inj H
                      go_wp2
                      first | go_end0 | (simp only [Exit.inBlock, Exit.then]; refine bodyPost_ret (results_none rfl _ _ _) rfl ?_) | refine bodyPost_ret (results_none rfl _ _ _) rfl ?_
                      exact ⟨rfl, HE.out.below HB.out, Grp.Fr.of_below HB.out bb⟩
            · rw [if_neg c9] at H
              exact absurd H (by simp)
          · rw [if_neg c8] at H
            exact absurd H (by simp)
        · rw [if_neg c7] at H
          have c7b0 : decide (x23_1 < (l0.length : Int)) = false := decide_eq_false c7
          clear c7
          have hBB := (HB.out.cell (World.block_lt_of_cell? w _ HBB0.out)).trans HBB0.out
          have hBF := (HB.out.frozen (World.block_lt_of_cell? w _ HBB0.out)).trans HBF0.out
          by_cases c16 : (l0.length : Int) > (a4.length : Int)
          · rw [if_pos c16] at H
            have c16b0 : decide ((a4.length : Int) < (l0.length : Int)) = true := decide_eq_true c16
            have c16b1 : decide (a4.length < l0.length) = true := decide_eq_true (by omega)
            clear c16
            obtain rfl := Option.some.inj H
            go_wp2
            first | go_end0 | (simp only [Exit.inBlock, Exit.then]; refine bodyPost_ret (results_none rfl _ _ _) rfl ?_) | refine bodyPost_ret (results_none rfl _ _ _) rfl ?_
            exact ⟨rfl, (HE.out.below HB.out).set (Kd.F_below HF0.out HB.out) HC0.out, (Grp.Fr.of_below HB.out bb).set _⟩
          · rw [if_neg c16] at H
            have c16b0 : decide ((a4.length : Int) < (l0.length : Int)) = false := decide_eq_false c16
            have c16b1 : decide (a4.length < l0.length) = false := decide_eq_false (by omega)
            clear c16
            obtain rfl := Option.some.inj H
            go_wp2
            first | go_end0 | (simp only [Exit.inBlock, Exit.then]; refine bodyPost_ret (results_none rfl _ _ _) rfl ?_) | refine bodyPost_ret (results_none rfl _ _ _) rfl ?_
            exact ⟨rfl, HE.out.below HB.out, Grp.Fr.of_below HB.out bb⟩
  · rw [if_neg c6] at H
    have c6b0 : (a1 == (l2.length : Int)) = false := beq_eq_false_iff_ne.mpr c6
    have c6b1 : (a1 != (l2.length : Int)) = true := bne_iff_ne.mpr c6
    have H' := Aside0.mk H
    clear H
    go_enter Try.func42, Try.ntmps42
    have hP := HP0.out
    go_wp2
    clear hP
    go_loopg [52] k (fun kq v52 w' => ∃ (x52_1 : Int) (x95_1 : List (List Int)), v52 = .int .i64 x52_1 ∧ Aside0 (grp.l2 kq l0 a1 l2 l3 (wrap64 ((l0.length : Int) + 1)) x52_1 x95_1 = some r) ∧ Aside0 (kq ≤ k) ∧ Aside0 (Grp.Env w' bp bn bb bx B A2 c2 l2 A3 c3 l3 x95_1) ∧ Aside0 (Kd.F (Kd.slice 3 (Kd.int .i64)) w' (fun k => B ≤ k ∧ k ≠ bb) A0 l0.length l0) ∧ Aside0 (Grp.Fr w w' bb))
    case atStart => exact ⟨(0), (a4), (by first | rfl | (simp; done) | (simp [*]; done)), H', ⟨Nat.le_refl _⟩, HE, HF0, ⟨Grp.Fr.refl _ _⟩⟩
    case round =>
      clear H'
      try clear c1
      try clear c2
      try clear p2
      try clear q2
      try clear hx2
      try clear c3
      try clear c6
      try clear c6b0
      try clear c6b1
      try clear p6
      try clear c7
      try clear c7b0
      try clear c8
      try clear c8b0
      try clear c9
      try clear c9b0
      try clear c10
      try clear c10b0
      try clear c11
      try clear c11b0
      try clear c12
      try clear c12b0
      try clear c13
      try clear c13b0
      try clear c14
      try clear c14b0
      try clear c15
      try clear c15b0
      try clear c15b1
      try clear c16
      try clear c16b0
      try clear hx205_0
      try clear hx206_0
      try clear hx207_0
      try clear p2
      try clear p205
      try clear p206
      try clear p207
      try clear p6
      try clear q2
      try clear q205
      try clear q206
      try clear q207
      obtain ⟨x52_1, x95_1, rfl, HA, HK1, HEr, HFr, HKr⟩ := hrel
      obtain ⟨wo, hwo⟩ : ∃ wo, wo = wr := ⟨_, rfl⟩
      subst hwo
      clear HE HF0 HR0 HR3 HP0 HN0 HBB0 HBF0 HB
      have HB := Aside0.mk (Below.refl wo.heap.size wo)
      have HR0 := Aside0.mk (Kd.F_now HFr.out)
      have HR2 := Aside0.mk (Kd.F_now HEr.out.f2)
      have HP0 := Lib.hid HEr.out.pc
      have HX0 := Lib.hid HEr.out.xc
      cases gk with
      | zero => exact absurd HA.out (by simp [grp.l2])
      | succ k1 =>
        have H := HA.out
        clear HA
        simp only [grp.l2] at H
        by_cases c17 : x52_1 < (wrap64 ((l0.length : Int) + 1))
        · rw [if_pos c17] at H
          have c17b0 : decide (x52_1 < (wrap64 ((l0.length : Int) + 1))) = true := decide_eq_true c17
          clear c17
          obtain ⟨y208, hy208⟩ : ∃ y_ : List (List Int), y_ = (([] : List (List Int))) := ⟨_, rfl⟩
          replace H : (grp.l3 k1 l0 a1 l2 l3 x52_1 y208 (wrap64 ((l0.length : Int) + 1)) x52_1 l0 (l0.length : Int) 0 x95_1) = some r := by first | (rw [hy208]; with_reducible exact H) | (have H2_ := (Option.bind_some _ _).symm.trans H; rw [hy208]; with_reducible exact H2_) | (have H2_ := (Option.bind_some _ _).symm.trans H; with_reducible exact H2_) | with_reducible exact H | (rw [hy208]; exact H) | exact H
          have Ny208 := Aside0.mk hy208
          clear hy208
          have H' := Aside0.mk H
          clear H
          go_wp2_with (first | ((with_reducible refine gate_dst (N := 55) rfl ?_); refine Kd.S_lit (Kd.slice 3 (Kd.int .i64)) _ 48 ?hg (N := 55) ?hd (xs := ([] : List (List Int))) (inner := []) (ok := fun _ => True) (okp := fun _ => True) ?hr ?hp (fun _ hk => hk) trivial (Below.refl _ _) (Nat.le_refl _) (by simp) ?_; (case hd => rfl); (case hg => rfl); (case hr => first | (go_simp; done) | (go_simp; rfl)); (case hp => exact (Reps.none _ _)); intro v209 w18 ho19 hb hg_ hnew_; clear hg_ hnew_; (first | rw [← Ny208.out] at ho19 | (simp only [Int.reduceToNat] at ho19; rw [← Ny208.out] at ho19)); have n0_ := Aside0.mk (Kd.S_lower ho19 (below_size (by repeat (first | (with_reducible first | exact HB.out | apply below_alloc | apply pw_below_drewN | apply below_drew1) | exact HB.out)))); have n1_ := Aside0.mk (below_step (by repeat (first | (with_reducible first | exact HB.out | apply below_alloc | apply pw_below_drewN | apply below_drew1) | exact HB.out)) hb); clear HB; have HO210 := n0_; have HB := n1_; clear n0_ n1_; clear hb ho19))
          go_loopg [14, 58] k1 (fun kq v14 v58 w' => ∃ (x14_2 : List (List Int)) (x58_2 : Int), v58 = .int .i64 x58_2 ∧ Aside0 (grp.l3 kq l0 a1 l2 l3 x52_1 x14_2 (wrap64 ((l0.length : Int) + 1)) x52_1 l0 (l0.length : Int) x58_2 x95_1 = some r) ∧ Aside0 (kq ≤ k1) ∧ Aside0 (Kd.S (Kd.slice 3 (Kd.int .i64)) 48 w' wo.heap.size (fun _ => True) v14 x14_2) ∧ Aside0 (Below wo.heap.size wo w'))
          case atStart => exact ⟨(y208), (0), (by first | rfl | (simp; done) | (simp [*]; done)), H', ⟨Nat.le_refl _⟩, ⟨by (with_reducible repeat (first | apply Kd.S_alloc | apply Kd.S_drewN | apply Kd.S_drew)); exact HO210.out⟩, ⟨by repeat (first | (with_reducible first | exact HB.out | apply below_alloc | apply pw_below_drewN | apply below_drew1) | exact HB.out)⟩⟩
          case round =>
            clear H'
            try clear c1
            try clear c2
            try clear p2
            try clear q2
            try clear hx2
            try clear c3
            try clear c6
            try clear c6b0
            try clear c6b1
            try clear p6
            try clear c7
            try clear c7b0
            try clear c8
            try clear c8b0
            try clear c9
            try clear c9b0
            try clear c10
            try clear c10b0
            try clear c11
            try clear c11b0
            try clear c12
            try clear c12b0
            try clear c13
            try clear c13b0
            try clear c14
            try clear c14b0
            try clear c15
            try clear c15b0
            try clear c15b1
            try clear c16
            try clear c16b0
            try clear c17
            try clear c17b0
            try clear hx205_0
            try clear hx206_0
            try clear hx207_0
            try clear p2
            try clear p205
            try clear p206
            try clear p207
            try clear p6
            try clear q2
            try clear q205
            try clear q206
            try clear q207
            obtain ⟨x14_2, x58_2, rfl, HA, HK2, HO_14, HB⟩ := hrel
            cases gk with
            | zero => exact absurd HA.out (by simp [grp.l3])
            | succ k2 =>
              have H := HA.out
              clear HA
              simp only [grp.l3] at H
              by_cases c20 : x58_2 < (l0.length : Int)
              · rw [if_pos c20] at H
                have c20b0 : decide (x58_2 < (l0.length : Int)) = true := decide_eq_true c20
                clear c20
                by_cases c21 : 0 ≤ x58_2
                · rw [if_pos c21] at H
                  have c21b0 : decide (0 ≤ x58_2) = true := decide_eq_true c21
                  clear c21
                  by_cases c22 : x58_2 < (l0.length : Int)
                  · rw [if_pos c22] at H
                    have c22b0 : decide (x58_2 < (l0.length : Int)) = true := decide_eq_true c22
                    clear c22
                    replace H := Option.bind_eq_some_iff.mp H
                    obtain ⟨t212, A230, H⟩ := H
                    replace H : (if x14_2.length < 5864062014805 then (grp.l3 k2 l0 a1 l2 l3 x52_1 (x14_2 ++ [t212]) (wrap64 ((l0.length : Int) + 1)) x52_1 l0 (l0.length : Int) (wrap64 (x58_2 + 1)) x95_1) else (none)) = some r := H
                    have A23 := Aside0.mk A230
                    clear A230
                    by_cases c24 : x14_2.length < 5864062014805
                    · rw [if_pos c24] at H
                      have LMc24 := Aside0.mk c24
                      clear c24
                      obtain ⟨y215, hy215⟩ : ∃ y_ : List (List Int), y_ = (x14_2 ++ [t212]) := ⟨_, rfl⟩
                      replace H : (grp.l3 k2 l0 a1 l2 l3 x52_1 y215 (wrap64 ((l0.length : Int) + 1)) x52_1 l0 (l0.length : Int) (wrap64 (x58_2 + 1)) x95_1) = some r := by first | (rw [hy215]; with_reducible exact H) | (have H2_ := (Option.bind_some _ _).symm.trans H; rw [hy215]; with_reducible exact H2_) | (have H2_ := (Option.bind_some _ _).symm.trans H; with_reducible exact H2_) | with_reducible exact H | (rw [hy215]; exact H) | exact H
                      have Ny215 := Aside0.mk hy215
                      clear hy215
                      have H' := Aside0.mk H
                      clear H
                      have p211 : 0 ≤ (x58_2 : Int) := of_decide_eq_true (by first | (with_reducible assumption) | assumption)
                      have q211 : x58_2 < (l0.length : Int) := of_decide_eq_true (by first | (with_reducible assumption) | assumption)
                      obtain ⟨ad211, A211_0, c211_0, e211, hx211_0, hl211_0, hi211_0⟩ := at_L5 HR0.out x58_2 p211 q211
                      cases e211
                      (try replace hx211_0 := (HB.out.cell (World.block_lt_of_cell? wo _ hx211_0)).trans hx211_0)
                      have HR211_0 := Aside0.mk hi211_0
                      have HC211_0 := Aside0.mk hl211_0
                      clear hi211_0 hl211_0
                      replace p211 := eq_true p211
                      replace q211 := eq_true q211
                      go_wp2_with (first | ((with_reducible refine gate_callee (f := 43) rfl ?_); refine goesL_ (some 64) rfl rfl Try.func43 (by kernel_rfl) rfl #[.slice A211_0 (rd_L5 l0 x58_2).length c211_0] rfl (by (try simp only [List.map_toArray, List.map_cons, List.map_nil]); first | done | rfl | (simp only [List.length_drop, List.length_take]; rfl)) ?_; (with_reducible refine (cloneInt.calls _ _ (rd_L5 l0 x58_2) t212 _ ?side1 ?side2 A23.out).mono ?_); (case side1 => repeat (first | exact (Kd.C_below HR211_0.out HB.out) | (with_reducible refine Kd.C_alloc ?_ _) | (with_reducible refine Kd.C_drewN ?_ _) | (with_reducible refine Kd.C_drew ?_))); (case side2 => exact HC211_0.out); rintro e w25 ⟨v213, rfl, ho0, hb⟩; refine ⟨_, rfl, ?_⟩; have n0_ := Aside0.mk (Kd.S_elder' (by (with_reducible repeat (first | apply Kd.S_alloc | apply Kd.S_drewN | apply Kd.S_drew)); exact HO_14.out) (Kd.R_base ho0) hb); have n1_ := Aside0.mk (Kd.R_lower ho0 (below_size (by repeat (first | (with_reducible first | exact HB.out | apply below_alloc | apply pw_below_drewN | apply below_drew1) | exact HB.out)))); have n2_ := Aside0.mk (below_step (by repeat (first | (with_reducible first | exact HB.out | apply below_alloc | apply pw_below_drewN | apply below_drew1) | exact HB.out)) hb); clear HO_14; clear HB; have HO_14 := n0_; have HO214 := n1_; have HB := n2_; clear n0_ n1_ n2_; (try clear hb); (try clear hb2); (try clear hk); (try clear hi); (try clear ho0); obtain ⟨Ao27, co27, eo27⟩ := Kd.R_slice HO214.out; subst eo27) | ((with_reducible refine gate_builtin (b := .append) (xs := #[.tmp 62, .tmp 65]) rfl ?_); at_builtin; refine Kd.S_append (Kd.slice 3 (Kd.int .i64)) (w0 := wo) wo.heap.size rfl (.tmp 62) (.tmp 65) 52 48 (.slice none 0 0) 24 rfl Try.underlying52 info48 rfl (by decide) (by omega) u14 x14_2 t212 [.slice Ao27 t212.length co27] (fun _ => True) (fun k_ => some k_ = (.slice Ao27 t212.length co27 : Value).ownBlock) rfl rfl ?aP (fun k_ hk_ => ((Kd.R_mono (ok' := fun k_ => ((fun _ => True)) k_ ∧ some k_ ≠ (u14 : Value).ownBlock) (Kd.R_apart' (HO214.out) (Kd.S_typed HO_14.out) (by decide)) (fun k_ hk => ⟨trivial, hk.2⟩))).1 k_ hk_.symm) ?aF ?aO ?aB ?aS ?aL ?_; (case aP => exact Kd.M_row (Kd.R_mono (Kd.R_tight rfl (Kd.R_mono (ok' := fun k_ => ((fun _ => True)) k_ ∧ some k_ ≠ (u14 : Value).ownBlock) (Kd.R_apart' (HO214.out) (Kd.S_typed HO_14.out) (by decide)) (fun k_ hk => ⟨trivial, hk.2⟩))) (fun _ h_ => h_))); (case aB => exact (by repeat (first | (with_reducible first | exact HB.out | apply below_alloc | apply pw_below_drewN | apply below_drew1) | exact HB.out))); (case aF => exact (fun _ _ => trivial)); (case aO => exact (by (with_reducible repeat (first | apply Kd.S_alloc | apply Kd.S_drewN | apply Kd.S_drew)); exact Kd.S_mono HO_14.out (fun k_ hk => ⟨trivial, fun e_ => hk.2 e_⟩))); (case aS => exact (below_size (by repeat (first | (with_reducible first | exact HB.out | apply below_alloc | apply pw_below_drewN | apply below_drew1) | exact HB.out)))); (case aL => have := LMc24.out; omega); intro v216 w26 ho hb hg hat; rw [← Ny215.out] at ho; have n0_ := Aside0.mk (hb); have n1_ := Aside0.mk (ho); clear HB; clear HO_14; clear HO214; have HB := n0_; have HO217 := n1_; clear n0_ n1_; clear ho hb hg hat))
                      go_roundg k2
                      case measure => have := HK1.out; have := HK2.out; omega
                      case rel => exact ⟨(y215), (wrap64 (x58_2 + 1)), (by first | rfl | (simp; done) | (simp [*]; done)), H', ⟨by have := HK1.out; have := HK2.out; omega⟩, ⟨by (with_reducible repeat (first | apply Kd.S_alloc | apply Kd.S_drewN | apply Kd.S_drew)); exact HO217.out⟩, ⟨by repeat (first | (with_reducible first | exact HB.out | apply below_alloc | apply pw_below_drewN | apply below_drew1) | exact HB.out)⟩⟩
                    · rw [if_neg c24] at H
                      exact absurd H (by simp)
                  · rw [if_neg c22] at H
                    exact absurd H (by simp)
                · rw [if_neg c21] at H
                  exact absurd H (by simp)
              · rw [if_neg c20] at H
                have c20b0 : decide (x58_2 < (l0.length : Int)) = false := decide_eq_false c20
                clear c20
                by_cases c28 : x52_1 = (l0.length : Int)
                · rw [if_pos c28] at H
                  have c28b0 : (x52_1 == (l0.length : Int)) = true := beq_iff_eq.mpr c28
                  have c28b1 : (x52_1 != (l0.length : Int)) = false := bne_eq_false_iff_eq.mpr c28
                  clear c28
                  obtain ⟨y218, hy218⟩ : ∃ y_ : List Int, y_ = (([] : List Int)) := ⟨_, rfl⟩
                  replace H : (if x14_2.length < 5864062014805 then ((some (x14_2 ++ [y218] : List (List Int))).bind fun y221 => (if 0 ≤ x52_1 then (if x52_1 < (y221.length : Int) then (if 0 ≤ a1 then (if a1 < (l2.length : Int) then (if (rd_L5 y221 x52_1).length < 17592186044416 then ((grp.f k2 (y221.set (x52_1 : Int).toNat ((rd_L5 y221 x52_1) ++ [rd l2 a1])) (wrap64 (a1 + 1)) l2 l3 x95_1).bind fun t230 => (grp.l2 k2 l0 a1 l2 l3 (wrap64 ((l0.length : Int) + 1)) (wrap64 (x52_1 + 1)) t230)) else (none)) else (none)) else (none)) else (none)) else (none))) else (none)) = some r := by first | (rw [hy218]; with_reducible exact H) | (have H2_ := (Option.bind_some _ _).symm.trans H; rw [hy218]; with_reducible exact H2_) | (have H2_ := (Option.bind_some _ _).symm.trans H; with_reducible exact H2_) | with_reducible exact H | (rw [hy218]; exact H) | exact H
                  have Ny218 := Aside0.mk hy218
                  clear hy218
                  by_cases c29 : x14_2.length < 5864062014805
                  · rw [if_pos c29] at H
                    have LMc29 := Aside0.mk c29
                    clear c29
                    obtain ⟨y221, hy221⟩ : ∃ y_ : List (List Int), y_ = (x14_2 ++ [y218]) := ⟨_, rfl⟩
                    replace H : (if 0 ≤ x52_1 then (if x52_1 < (y221.length : Int) then (if 0 ≤ a1 then (if a1 < (l2.length : Int) then (if (rd_L5 y221 x52_1).length < 17592186044416 then ((grp.f k2 (y221.set (x52_1 : Int).toNat ((rd_L5 y221 x52_1) ++ [rd l2 a1])) (wrap64 (a1 + 1)) l2 l3 x95_1).bind fun t230 => (grp.l2 k2 l0 a1 l2 l3 (wrap64 ((l0.length : Int) + 1)) (wrap64 (x52_1 + 1)) t230)) else (none)) else (none)) else (none)) else (none)) else (none)) = some r := by first | (rw [hy221]; with_reducible exact H) | (have H2_ := (Option.bind_some _ _).symm.trans H; rw [hy221]; with_reducible exact H2_) | (have H2_ := (Option.bind_some _ _).symm.trans H; with_reducible exact H2_) | with_reducible exact H | (rw [hy221]; exact H) | exact H
                    have Ny221 := Aside0.mk hy221
                    clear hy221
                    by_cases c30 : 0 ≤ x52_1
                    · rw [if_pos c30] at H
                      have c30b0 : decide (0 ≤ x52_1) = true := decide_eq_true c30
                      clear c30
                      by_cases c31 : x52_1 < (y221.length : Int)
                      · rw [if_pos c31] at H
                        have c31b0 : decide (x52_1 < (y221.length : Int)) = true := decide_eq_true c31
                        clear c31
                        by_cases c32 : 0 ≤ a1
                        · rw [if_pos c32] at H
                          have c32b0 : decide (0 ≤ a1) = true := decide_eq_true c32
                          clear c32
                          by_cases c33 : a1 < (l2.length : Int)
                          · rw [if_pos c33] at H
                            have c33b0 : decide (a1 < (l2.length : Int)) = true := decide_eq_true c33
                            clear c33
                            by_cases c34 : (rd_L5 y221 x52_1).length < 17592186044416
                            · rw [if_pos c34] at H
                              have LMc34 := Aside0.mk c34
                              clear c34
                              obtain ⟨y226, hy226⟩ : ∃ y_ : List Int, y_ = ((rd_L5 y221 x52_1) ++ [rd l2 a1]) := ⟨_, rfl⟩
                              replace H : ((grp.f k2 (y221.set (x52_1 : Int).toNat y226) (wrap64 (a1 + 1)) l2 l3 x95_1).bind fun t230 => (grp.l2 k2 l0 a1 l2 l3 (wrap64 ((l0.length : Int) + 1)) (wrap64 (x52_1 + 1)) t230)) = some r := by first | (rw [hy226]; with_reducible exact H) | (have H2_ := (Option.bind_some _ _).symm.trans H; rw [hy226]; with_reducible exact H2_) | (have H2_ := (Option.bind_some _ _).symm.trans H; with_reducible exact H2_) | with_reducible exact H | (rw [hy226]; exact H) | exact H
                              have Ny226 := Aside0.mk hy226
                              clear hy226
                              obtain ⟨y229, hy229⟩ : ∃ y_ : List (List Int), y_ = (y221.set (x52_1 : Int).toNat y226) := ⟨_, rfl⟩
                              replace H : ((grp.f k2 y229 (wrap64 (a1 + 1)) l2 l3 x95_1).bind fun t230 => (grp.l2 k2 l0 a1 l2 l3 (wrap64 ((l0.length : Int) + 1)) (wrap64 (x52_1 + 1)) t230)) = some r := by first | (rw [hy229]; with_reducible exact H) | (have H2_ := (Option.bind_some _ _).symm.trans H; rw [hy229]; with_reducible exact H2_) | (have H2_ := (Option.bind_some _ _).symm.trans H; with_reducible exact H2_) | with_reducible exact H | (rw [hy229]; exact H) | exact H
                              have Ny229 := Aside0.mk hy229
                              clear hy229
                              replace H := Option.bind_eq_some_iff.mp H
                              obtain ⟨t230, A360, H⟩ := H
                              replace H : (grp.l2 k2 l0 a1 l2 l3 (wrap64 ((l0.length : Int) + 1)) (wrap64 (x52_1 + 1)) t230) = some r := H
                              have A36 := Aside0.mk A360
                              clear A360
                              have H' := Aside0.mk H
                              clear H
                              try go_wp2_with (first | ((with_reducible refine gate_dst (N := 73) rfl ?_); refine Kd.R_lit (Kd.int .i64) _ 3 ?hg (N := 73) ?hd (xs := ([] : List Int)) (inner := []) (ok := fun _ => True) (okp := fun _ => True) ?hr ?hp (fun _ hk => hk) trivial (Below.refl _ _) (Nat.le_refl _) (by simp) ?_; (case hd => rfl); (case hg => rfl); (case hr => first | (go_simp; done) | (go_simp; rfl)); (case hp => exact (Reps.none _ _)); intro v219 w37 ho38 hb hg_ hnew_; clear hg_ hnew_; (first | rw [← Ny218.out] at ho38 | (simp only [Int.reduceToNat] at ho38; rw [← Ny218.out] at ho38)); have n0_ := Aside0.mk (Kd.S_elder' (by (with_reducible repeat (first | apply Kd.S_alloc | apply Kd.S_drewN | apply Kd.S_drew)); exact HO_14.out) (Kd.R_base ho38) hb); have n1_ := Aside0.mk (Kd.R_lower ho38 (below_size (by repeat (first | (with_reducible first | exact HB.out | apply below_alloc | apply pw_below_drewN | apply below_drew1) | exact HB.out)))); have n2_ := Aside0.mk (below_step (by repeat (first | (with_reducible first | exact HB.out | apply below_alloc | apply pw_below_drewN | apply below_drew1) | exact HB.out)) hb); clear HO_14; clear HB; have HO_14 := n0_; have HO220 := n1_; have HB := n2_; clear n0_ n1_ n2_; clear hb ho38; obtain ⟨Ao40, co40, eo40⟩ := Kd.R_slice HO220.out; subst eo40) | ((with_reducible refine gate_builtin (b := .append) (xs := #[.tmp 72, .tmp 74]) rfl ?_); at_builtin; refine Kd.S_append (Kd.slice 3 (Kd.int .i64)) (w0 := wo) wo.heap.size rfl (.tmp 72) (.tmp 74) 52 48 (.slice none 0 0) 24 rfl Try.underlying52 info48 rfl (by decide) (by omega) u14 x14_2 y218 [.slice Ao40 y218.length co40] (fun _ => True) (fun k_ => some k_ = (.slice Ao40 y218.length co40 : Value).ownBlock) rfl rfl ?aP (fun k_ hk_ => ((Kd.R_mono (ok' := fun k_ => ((fun _ => True)) k_ ∧ some k_ ≠ (u14 : Value).ownBlock) (Kd.R_apart' (HO220.out) (Kd.S_typed HO_14.out) (by decide)) (fun k_ hk => ⟨trivial, hk.2⟩))).1 k_ hk_.symm) ?aF ?aO ?aB ?aS ?aL ?_; (case aP => exact Kd.M_row (Kd.R_mono (Kd.R_tight rfl (Kd.R_mono (ok' := fun k_ => ((fun _ => True)) k_ ∧ some k_ ≠ (u14 : Value).ownBlock) (Kd.R_apart' (HO220.out) (Kd.S_typed HO_14.out) (by decide)) (fun k_ hk => ⟨trivial, hk.2⟩))) (fun _ h_ => h_))); (case aB => exact (by repeat (first | (with_reducible first | exact HB.out | apply below_alloc | apply pw_below_drewN | apply below_drew1) | exact HB.out))); (case aF => exact (fun _ _ => trivial)); (case aO => exact (by (with_reducible repeat (first | apply Kd.S_alloc | apply Kd.S_drewN | apply Kd.S_drew)); exact Kd.S_mono HO_14.out (fun k_ hk => ⟨trivial, fun e_ => hk.2 e_⟩))); (case aS => exact (below_size (by repeat (first | (with_reducible first | exact HB.out | apply below_alloc | apply pw_below_drewN | apply below_drew1) | exact HB.out)))); (case aL => have := LMc29.out; omega); intro v222 w39 ho hb hg hat; rw [← Ny221.out] at ho; have n0_ := Aside0.mk (hb); have n1_ := Aside0.mk (ho); clear HB; clear HO_14; clear HO220; have HB := n0_; have HO223 := n1_; clear n0_ n1_; clear ho hb hg hat))
                              have n0_ := Aside0.mk (Kd.S_drew HO223.out)
                              have n1_ := Aside0.mk (below_drew1 HB.out)
                              clear HO223
                              clear HB
                              have HO223 := n0_
                              have HB := n1_
                              clear n0_ n1_
                              obtain ⟨Ao42, co42, eo42⟩ := Kd.S_slice HO223.out
                              (first | subst eo42 | (injection eo42 with f1_ f2_ f3_; have f4_ := f1_.symm; have f5_ := f3_.symm; clear f1_ f2_ f3_; subst f4_; subst f5_))
                              have p224 : 0 ≤ (x52_1 : Int) := of_decide_eq_true (by first | (with_reducible assumption) | assumption)
                              have q224 : x52_1 < (y221.length : Int) := of_decide_eq_true (by first | (with_reducible assumption) | assumption)
                              obtain ⟨ad224, A224_0, c224_0, e224, hx224_0, hl224_0, hi224_0⟩ := at_L5 (Kd.S_reads' HO223.out).2.2 x52_1 p224 q224
                              cases e224
                              obtain ⟨ce224, hce224, hMe224, hcc224⟩ := Kd.S_get HO223.out [] x52_1 p224 (by first | exact q224 | exact of_decide_eq_true (by first | (with_reducible assumption) | assumption) | (have e_ := (Kd.S_reads' HO223.out).1; omega))
                              obtain ⟨ve224_0, rfl, ge224_0⟩ := hMe224
                              have hv224_0 := hcc224 0 _ rfl
                              rw [Nat.add_zero, show ((Kd.slice 3 (Kd.int .i64))).sz = 1 from rfl, Nat.mul_one] at hv224_0
                              replace hv224_0 := Option.some.inj (hv224_0.symm.trans hx224_0)
                              rw [hv224_0] at ge224_0
                              have HL224_0 := Aside0.mk (show Kd.R (Kd.int .i64) 3 _ _ _ _ (rd_L5 y221 x52_1) from ge224_0)
                              clear hv224_0 ge224_0
                              have HX224_0 := Aside0.mk hx224_0
                              clear hcc224 hce224
                              have HR224_0 := Aside0.mk hi224_0
                              have HC224_0 := Aside0.mk hl224_0
                              clear hi224_0 hl224_0
                              replace p224 := eq_true p224
                              replace q224 := eq_true q224
                              have p225 : 0 ≤ (a1 : Int) := of_decide_eq_true (by first | (with_reducible assumption) | assumption)
                              have q225 : a1 < (l2.length : Int) := of_decide_eq_true (by first | (with_reducible assumption) | assumption)
                              obtain ⟨ad225, e225, hx225_0⟩ := Kd.at_int HR2.out a1 p225 q225
                              have hw225_0 := hx225_0
                              cases e225
                              (try replace hx225_0 := (HB.out.cell (World.block_lt_of_cell? wo _ hx225_0)).trans hx225_0)
                              replace p225 := eq_true p225
                              replace q225 := eq_true q225
                              obtain ⟨go43, co43, eo43, gb43, gl43, cl43, HG43⟩ := Kd.S_form HO223.out (by have h_ : (x52_1 : Int) < ((y221.length : Int) : Int) := of_decide_eq_true (by first | (with_reducible assumption) | assumption); have h2_ : 0 ≤ (x52_1 : Int) := (of_decide_eq_true (by first | (with_reducible assumption) | assumption)); omega)
                              (first | cases eo43 | (injection eo43 with ea_ en_ ec_; (first | subst ea_ | (injection ea_ with ea_; subst ea_)); subst ec_; clear en_))
                              have GB43 := Aside0.mk gb43
                              have GG43 := Aside0.mk HG43
                              clear gb43 gl43 HG43
                              (first | simp only [add_plain] at hx224_0 | skip)
                              obtain ⟨oki43, ce43, hcl43, hM43, hcc43, _, _, hH43⟩ := Kd.S_elem HO223.out [] (x52_1 : Int) (of_decide_eq_true (by first | (with_reducible assumption) | assumption)) (by have h_ : (x52_1 : Int) < ((y221.length : Int) : Int) := of_decide_eq_true (by first | (with_reducible assumption) | assumption); first | exact h_ | (have e_ := (Kd.S_reads' HO223.out).1; omega) | simpa using h_)
                              obtain ⟨ve43_0, rfl, ge43_0⟩ := hM43
                              have hv43 := hcc43 0 _ rfl
                              have hX43 := HX224_0.out
                              (try simp only [add_plain] at hX43)
                              (try simp only [Nat.add_zero] at hv43)
                              (try rw [show ((Kd.slice 3 (Kd.int .i64))).sz = 1 from rfl, Nat.mul_one] at hv43)
                              replace hv43 := Option.some.inj (hv43.symm.trans hX43)
                              subst hv43
                              clear hX43 hcc43 hcl43
                              have UU43 := Aside0.mk (show Kd.R (Kd.int .i64) 3 _ wo.heap.size oki43 (.slice A224_0 (rd_L5 y221 x52_1).length c224_0) (rd_L5 y221 x52_1) from ge43_0)
                              have HH43 := Aside0.mk hH43
                              have HN43 := Aside0.mk (Kd.S_reads' HO223.out).1
                              clear hH43 ge43_0
                              refine start_ (n := 14) (S := fun w' => w'.cell? ⟨go43, (x52_1).toNat, none⟩ = some (.slice A224_0 (rd_L5 y221 x52_1).length c224_0) ∧ w'.cell? (ad225.add (a1).toNat) = some (.int .i64 (rd l2 a1)) ∧ w'.cell? ⟨bp, 0, none⟩ = some (.slice (some ad225) l2.length c2)) (ds := [13]) #[false, false, false, false, false, false, false, false, false, false, false, false, false, false] (by kernel_rfl) rfl rfl ⟨hx224_0, ((HB.out.cell (World.block_lt_of_cell? wo _ hw225_0)).trans hw225_0), ((HB.out.cell (World.block_lt_of_cell? wo _ HP0.out)).trans HP0.out)⟩ (fun hHeld => ?_); refine with_tabW grp.tab25 grp.bits25 (fun HT_ HW_ => ?_)
                              generalize w39.drew = w41 at HO223 HB GG43 HH43 HL224_0 HR224_0 HX224_0 UU43 hx224_0 hx225_0 hHeld ⊢
                              refine pure_ (i := 0) (N := some 76) (v := ?_) (a' := ?_) #[true, false, false, false, false, false, false, false, false, false, false, false, false, false] rfl rfl (any_of HT_.out (by kernel_rfl)) (fun _ _ _ h => h) (Or.inl ⟨by rfl, ?_⟩) ?_ ?_
                              rotate_left
                              · intro w'
                                go_simp
                                with_reducible rfl
                              rotate_left
                              · simp only [Act.put, List.setIfInBounds_toArray, List.set_cons_zero, List.set_cons_succ, i64_w, i32_w]
                                rfl
                              refine pure_ (i := 1) (N := some 77) (v := ?_) (a' := ?_) #[true, true, false, false, false, false, false, false, false, false, false, false, false, false] rfl rfl (any_of HT_.out (by kernel_rfl)) (fun _ _ _ h => h) (Or.inl ⟨by rfl, ?_⟩) ?_ ?_
                              rotate_left
                              · intro w'
                                go_simp
                                with_reducible rfl
                              rotate_left
                              · simp only [Act.put, List.setIfInBounds_toArray, List.set_cons_zero, List.set_cons_succ, i64_w, i32_w]
                                rfl
                              refine pure_ (i := 2) (N := some 78) (v := ?_) (a' := ?_) #[true, true, true, false, false, false, false, false, false, false, false, false, false, false] rfl rfl (any_of HT_.out (by kernel_rfl)) (fun _ _ _ h => h) (Or.inl ⟨by rfl, ?_⟩) ?_ ?_
                              rotate_left
                              · intro w'
                                go_simp
                                with_reducible rfl
                              rotate_left
                              · simp only [Act.put, List.setIfInBounds_toArray, List.set_cons_zero, List.set_cons_succ, i64_w, i32_w]
                                rfl
                              refine pure_ (i := 3) (N := some 79) (v := ?_) (a' := ?_) #[true, true, true, true, false, false, false, false, false, false, false, false, false, false] rfl rfl (any_of HT_.out (by kernel_rfl)) (fun _ _ _ h => h) (Or.inl ⟨by rfl, ?_⟩) ?_ ?_
                              rotate_left
                              · intro w'
                                go_simp
                                with_reducible rfl
                              rotate_left
                              · simp only [Act.put, List.setIfInBounds_toArray, List.set_cons_zero, List.set_cons_succ, i64_w, i32_w]
                                rfl
                              refine pure_ (i := 4) (N := some 80) (v := ?_) (a' := ?_) #[true, true, true, true, true, false, false, false, false, false, false, false, false, false] rfl rfl (any_of HT_.out (by kernel_rfl)) (fun _ _ _ h => h) (Or.inl ⟨by rfl, ?_⟩) ?_ ?_
                              rotate_left
                              · intro w'
                                go_simp
                                with_reducible rfl
                              rotate_left
                              · simp only [Act.put, List.setIfInBounds_toArray, List.set_cons_zero, List.set_cons_succ, i64_w, i32_w]
                                rfl
                              refine take_ (i := 6) (N := some 82) (v := ?_) (a' := ?_) #[true, true, true, true, true, false, true, false, false, false, false, false, false, false] rfl rfl (take_ofW HT_.out HW_.out (by kernel_rfl)) (fun _ _ _ h => h) (Or.inl ⟨by rfl, ?_⟩) hHeld ?_ ?_
                              rotate_left
                              · rintro w' ⟨s0, s1, s2⟩
                                go_simp
                                with_reducible rfl
                              rotate_left
                              · simp only [Act.put, List.setIfInBounds_toArray, List.set_cons_zero, List.set_cons_succ, i64_w, i32_w]
                                rfl
                              refine pure_ (i := 7) (N := some 83) (v := ?_) (a' := ?_) #[true, true, true, true, true, false, true, true, false, false, false, false, false, false] rfl rfl (any_of HT_.out (by kernel_rfl)) (fun _ _ _ h => h) (Or.inl ⟨by rfl, ?_⟩) ?_ ?_
                              rotate_left
                              · intro w'
                                go_simp
                                with_reducible rfl
                              rotate_left
                              · simp only [Act.put, List.setIfInBounds_toArray, List.set_cons_zero, List.set_cons_succ, i64_w, i32_w]
                                rfl
                              refine pure_ (i := 8) (N := some 84) (v := ?_) (a' := ?_) #[true, true, true, true, true, false, true, true, true, false, false, false, false, false] rfl rfl (any_of HT_.out (by kernel_rfl)) (fun _ _ _ h => h) (Or.inl ⟨by rfl, ?_⟩) ?_ ?_
                              rotate_left
                              · intro w'
                                go_simp
                                with_reducible rfl
                              rotate_left
                              · simp only [Act.put, List.setIfInBounds_toArray, List.set_cons_zero, List.set_cons_succ, i64_w, i32_w]
                                rfl
                              refine take_ (i := 5) (N := some 81) (v := ?_) (a' := ?_) #[true, true, true, true, true, true, true, true, true, false, false, false, false, false] rfl rfl (take_ofW HT_.out HW_.out (by kernel_rfl)) (fun _ _ _ h => h) (Or.inl ⟨by rfl, ?_⟩) hHeld ?_ ?_
                              rotate_left
                              · rintro w' ⟨s0, s1, s2⟩
                                go_simp
                                with_reducible rfl
                              rotate_left
                              · simp only [Act.put, List.setIfInBounds_toArray, List.set_cons_zero, List.set_cons_succ, i64_w, i32_w]
                                rfl
                              refine take_ (i := 9) (N := some 85) (v := ?_) (a' := ?_) #[true, true, true, true, true, true, true, true, true, true, false, false, false, false] rfl rfl (take_ofW HT_.out HW_.out (by kernel_rfl)) (fun _ _ _ h => h) (Or.inl ⟨by rfl, ?_⟩) hHeld ?_ ?_
                              rotate_left
                              · rintro w' ⟨s0, s1, s2⟩
                                go_simp
                                with_reducible rfl
                              rotate_left
                              · simp only [Act.put, List.setIfInBounds_toArray, List.set_cons_zero, List.set_cons_succ, i64_w, i32_w]
                                rfl
                              refine one_ (i := 10) (N := some 86) #[true, true, true, true, true, true, true, true, true, true, true, false, false, false] rfl rfl (one_of HT_.out (by kernel_rfl)) (by decide) (fun K hK => ?_)
                              refine value_ (w1 := ?_) (v := ?_) (by rfl) rfl ?_ ?_
                              rotate_left 2
                              · go_simp
                                constructor
                                · rfl
                                · rfl
                              refine hK.out _ _ ⟨(World.cell?_alloc_lt _ _ _ (World.block_lt_of_cell? _ _ (hHeld.1))).trans (hHeld.1), (World.cell?_alloc_lt _ _ _ (World.block_lt_of_cell? _ _ (((HB.out.cell (World.block_lt_of_cell? wo _ hw225_0)).trans hw225_0)))).trans (((HB.out.cell (World.block_lt_of_cell? wo _ hw225_0)).trans hw225_0)), (World.cell?_alloc_lt _ _ _ (World.block_lt_of_cell? _ _ (hHeld.2.2))).trans (hHeld.2.2)⟩ (fun hHeld => ?_)
                              clear hK K
                              refine norm_ (a' := ?_) ?_ ?_
                              rotate_left
                              · show Act.put _ (some 86) _ = _
                                simp only [Act.put, List.setIfInBounds_toArray, List.set_cons_zero, List.set_cons_succ, i64_w, i32_w]
                                rfl
                              refine one_ (i := 11) (N := some 87) #[true, true, true, true, true, true, true, true, true, true, true, true, false, false] rfl rfl (one_of HT_.out (by kernel_rfl)) (by decide) (fun K hK => ?_)
                              refine Kd.R_append_step (Kd.int .i64) (w0 := wo) wo.heap.size (by rfl) (.tmp 81) (.tmp 86) 48 3 (.int .i64 0) 8 rfl Try.underlying48 info3 rfl (by decide) (by omega) (.slice A224_0 (rd_L5 y221 x52_1).length c224_0) (rd_L5 y221 x52_1) (rd l2 a1) [.int .i64 (rd l2 a1)] (fun k_ => oki43 k_ ∨ ((fun _ => True)) k_ ∧ w41.heap.size ≤ k_) (fun _ => False) rfl rfl ?aP (fun _ hk => hk.elim) ?aF ?aO ?aB ?aS ?aL ?_
                              (case aP => exact rfl)
                              (case aB => exact (by repeat (first | (with_reducible first | exact HB.out | apply below_alloc | apply pw_below_drewN | apply below_drew1) | exact HB.out)))
                              (case aF => exact (fun k_ hk => .inr ⟨trivial, hk⟩))
                              (case aO => exact (by (with_reducible repeat (first | apply Kd.R_alloc | apply Kd.R_drewN | apply Kd.R_drew)); exact Kd.R_mono UU43.out (fun _ hk => .inl hk)))
                              (case aS => exact (below_size (by repeat (first | (with_reducible first | exact HB.out | apply below_alloc | apply pw_below_drewN | apply below_drew1) | exact HB.out))))
                              (case aL => have := LMc34.out; omega)
                              intro v227 w44 ho hb hg hat
                              (first | have HS0_ := cell_grown hg (hHeld.1) (by first | (rw [add_block]; exact (fun e_ => ((HL224_0.out.1 _ e_.symm).2) rfl)) | (show some (Addr.add _ _).block ≠ _; rw [add_block]; exact (fun e_ => ((HL224_0.out.1 _ e_.symm).2) rfl)) | exact (fun e_ => ((HL224_0.out.1 _ e_.symm).2) rfl)) | have HS0_ := cell_grown hg (cell_unalloc (hHeld.1) (by first | (rw [add_block]; exact Kd.S_lt HO223.out _ rfl) | (show (Addr.add _ _).block < _; rw [add_block]; exact Kd.S_lt HO223.out _ rfl) | exact Kd.S_lt HO223.out _ rfl)) (by first | (rw [add_block]; exact (fun e_ => ((HL224_0.out.1 _ e_.symm).2) rfl)) | (show some (Addr.add _ _).block ≠ _; rw [add_block]; exact (fun e_ => ((HL224_0.out.1 _ e_.symm).2) rfl)) | exact (fun e_ => ((HL224_0.out.1 _ e_.symm).2) rfl)))
                              rw [← Ny226.out] at ho
                              have n0_ := Aside0.mk (hb)
                              have n1_ := Aside0.mk (Kd.H_grown (Kd.H_widen (by repeat (first | exact HH43.out | refine Kd.H_alloc ?_ _ | refine Kd.H_drewN ?_ _ | refine Kd.H_drew ?_))) hg (fun k_ e_ => .inl (UU43.out.1 k_ e_)))
                              have n2_ := Aside0.mk (ho)
                              clear HB
                              clear HH43
                              clear HO223
                              clear UU43
                              clear HL224_0
                              have HB := n0_
                              have HH43 := n1_
                              have HO228 := n2_
                              clear n0_ n1_ n2_
                              clear ho hb hg hat
                              have p35 : 0 ≤ (x52_1 : Int) := of_decide_eq_true (by first | (with_reducible assumption) | assumption)
                              have q35 : (x52_1 : Int) < ((y221.length : Int) : Int) := of_decide_eq_true (by first | (with_reducible assumption) | assumption)
                              replace p35 := eq_true p35
                              replace q35 := eq_true q35
                              obtain ⟨Ao47, co47, eo47⟩ := Kd.R_slice HO228.out
                              (first | subst eo47 | (injection eo47 with f1_ f2_ f3_; have f4_ := f1_.symm; have f5_ := f3_.symm; clear f1_ f2_ f3_; subst f4_; subst f5_))
                              obtain ⟨_, _, hraw45, _, _, hcc45, _⟩ := Kd.H_raw HH43.out (of_decide_eq_true (by first | (with_reducible assumption) | assumption)) (by have h_ : (x52_1 : Int) < ((y221.length : Int) : Int) := of_decide_eq_true (by first | (with_reducible assumption) | assumption); first | exact h_ | (have e_ := (HN43.out); omega) | simpa using h_)
                              obtain ⟨_, hfr45⟩ := Kd.H_at HH43.out (of_decide_eq_true (by first | (with_reducible assumption) | assumption)) (by have h_ : (x52_1 : Int) < ((y221.length : Int) : Int) := of_decide_eq_true (by first | (with_reducible assumption) | assumption); first | exact h_ | (have e_ := (HN43.out); omega) | simpa using h_)
                              have hx45_0 := hcc45 0 _ rfl
                              have hf45_0 := hfr45 0
                              (try simp only [Nat.add_zero] at hx45_0 hf45_0)
                              (try rw [show ((Kd.slice 3 (Kd.int .i64))).sz = 1 from rfl, Nat.mul_one] at hx45_0)
                              (try rw [show ((Kd.slice 3 (Kd.int .i64))).sz = 1 from rfl, Nat.mul_one] at hf45_0)
                              have HP45 := Kd.S_seg0 HH43.out (of_decide_eq_true (by first | (with_reducible assumption) | assumption)) (by have h_ : (x52_1 : Int) < ((y221.length : Int) : Int) := of_decide_eq_true (by first | (with_reducible assumption) | assumption); first | exact h_ | (have e_ := (HN43.out); omega) | simpa using h_) (seg := [.slice Ao47 y226.length co47]) (j := 0) (show 1 ≤ 1 from by decide) (x' := y226) (Kd.M_row HO228.out) (fun _ hk => hk)
                              (try simp only [show ((Kd.slice 3 (Kd.int .i64))).sz = 1 from rfl, Nat.mul_one, Nat.add_zero] at HP45)
                              clear hcc45 hfr45
                              have HS45 := HP45.1
                              rw [← Ny229.out] at HS45
                              have HQ45 := Aside0.mk HS45
                              obtain ⟨_, hgg45⟩ := Kd.R_typed hraw45 go43 rfl
                              have GG45_ := Aside0.mk hgg45
                              clear HP45 HS45 hgg45
                              refine hK.out _ _ ⟨HS0_, ((HB.out.cell (World.block_lt_of_cell? wo _ hw225_0)).trans hw225_0), ((HB.out.cell (World.block_lt_of_cell? wo _ HP0.out)).trans HP0.out)⟩ (fun hHeld => ?_)
                              clear hK K
                              refine norm_ (a' := ?_) ?_ ?_
                              rotate_left
                              · show Act.put _ (some 87) _ = _
                                simp only [Act.put, List.setIfInBounds_toArray, List.set_cons_zero, List.set_cons_succ, i64_w, i32_w]
                                rfl
                              refine pure_ (i := 12) (N := some 88) (v := ?_) (a' := ?_) #[true, true, true, true, true, true, true, true, true, true, true, true, true, false] rfl rfl (any_of HT_.out (by kernel_rfl)) (fun _ _ _ h => h) (Or.inl ⟨by rfl, ?_⟩) ?_ ?_
                              rotate_left
                              · intro w'
                                go_simp
                                with_reducible rfl
                              rotate_left
                              · simp only [Act.put, List.setIfInBounds_toArray, List.set_cons_zero, List.set_cons_succ, i64_w, i32_w]
                                rfl
                              refine last_ (i := 13) (N := none) #[true, true, true, true, true, true, true, true, true, true, true, true, true, true] rfl rfl (one_of HT_.out (by kernel_rfl)) (by decide) (fun K hK => ?_)
                              refine skip_ (w1 := ?_) (by rfl) rfl ?_ ?_
                              rotate_left
                              · go_simp
                                rfl
                              refine hK.out _ _ ?_
                              clear hK K
                              refine done_ (done_of HT_.out (by kernel_rfl)) ?_
                              first
                                | refine Grp.reletE (F := fun W => Below wo.heap.size wo W ∧ Kd.S (Kd.slice 3 (Kd.int .i64)) 48 W wo.heap.size (fun _ => True) (.slice (some ⟨go43, 0, none⟩) y221.length co42) y229) ⟨by repeat (first | (with_reducible first | exact HB.out | apply below_alloc | apply pw_below_drewN | apply below_drew1 | refine below_set ?_ GB43.out) | exact HB.out), HQ45.out⟩ ?_
                                | refine Grp.reletI (F := fun W => Below wo.heap.size wo W ∧ Kd.S (Kd.slice 3 (Kd.int .i64)) 48 W wo.heap.size (fun _ => True) (.slice (some ⟨go43, 0, none⟩) y221.length co42) y229) ⟨by repeat (first | (with_reducible first | exact HB.out | apply below_alloc | apply pw_below_drewN | apply below_drew1 | refine below_set ?_ GB43.out) | exact HB.out), HQ45.out⟩ ?_
                                | refine Grp.reletC (F := fun W => Below wo.heap.size wo W ∧ Kd.S (Kd.slice 3 (Kd.int .i64)) 48 W wo.heap.size (fun _ => True) (.slice (some ⟨go43, 0, none⟩) y221.length co42) y229) ⟨by repeat (first | (with_reducible first | exact HB.out | apply below_alloc | apply pw_below_drewN | apply below_drew1 | refine below_set ?_ GB43.out) | exact HB.out), HQ45.out⟩ ?_
                              rintro wq ⟨hbq, hsq⟩
                              have hEq := HEr.out.below hbq
                              have hlen_ := (Kd.S_reads' hsq).1
                              have hcall := ih k2 (by have := HK1.out; have := HK2.out; omega) (some ⟨go43, 0, none⟩) co42 y229 (wrap64 (a1 + 1)) x95_1 t230 wq hEq (hEq.own HEr.out.sz hsq) (by have := (Kd.S_reads' hsq).2.1; omega) A36.out
                              rw [← hlen_] at hcall
                              have HC_ := Aside0.mk hcall
                              have HBq := Aside0.mk hbq
                              have hXq := hEq.xc
                              clear hcall hbq hsq hEq hlen_
                              have eg := EG.out
                              go_wp2_with (go_at_fn 42; refine HC_.out.mono ?_; rintro e w' ⟨rfl, hE', hK'⟩; have HE' := Aside0.mk hE'; have HK' := Aside0.mk hK'; clear hE' hK')
                              clear eg
                              go_roundg k2
                              case measure => have := HK1.out; have := HK2.out; omega
                              case rel => exact ⟨(wrap64 (x52_1 + 1)), (t230), (by first | rfl | (simp; done) | (simp [*]; done)), H', ⟨by have := HK1.out; have := HK2.out; omega⟩, HE', ⟨Kd.F_keep (Kd.F_below HFr.out HBq.out) HK'.out.keep (fun _ h => h.2)⟩, ⟨HKr.out.trans ((Grp.Fr.of_below HBq.out bb).trans HK'.out)⟩⟩
                            · rw [if_neg c34] at H
                              exact absurd H (by simp)
                          · rw [if_neg c33] at H
                            exact absurd H (by simp)
                        · rw [if_neg c32] at H
                          exact absurd H (by simp)
                      · rw [if_neg c31] at H
                        exact absurd H (by simp)
                    · rw [if_neg c30] at H
                      exact absurd H (by simp)
                  · rw [if_neg c29] at H
                    exact absurd H (by simp)
                · rw [if_neg c28] at H
                  have c28b0 : (x52_1 == (l0.length : Int)) = false := beq_eq_false_iff_ne.mpr c28
                  have c28b1 : (x52_1 != (l0.length : Int)) = true := bne_iff_ne.mpr c28
                  by_cases c49 : 0 ≤ x52_1
                  · rw [if_pos c49] at H
                    have c49b0 : decide (0 ≤ x52_1) = true := decide_eq_true c49
                    clear c49
                    by_cases c50 : x52_1 < (x14_2.length : Int)
                    · rw [if_pos c50] at H
                      have c50b0 : decide (x52_1 < (x14_2.length : Int)) = true := decide_eq_true c50
                      clear c50
                      by_cases c51 : 0 ≤ a1
                      · rw [if_pos c51] at H
                        have c51b0 : decide (0 ≤ a1) = true := decide_eq_true c51
                        clear c51
                        by_cases c52 : a1 < (l2.length : Int)
                        · rw [if_pos c52] at H
                          have c52b0 : decide (a1 < (l2.length : Int)) = true := decide_eq_true c52
                          clear c52
                          by_cases c53 : (rd_L5 x14_2 x52_1).length < 17592186044416
                          · rw [if_pos c53] at H
                            have LMc53 := Aside0.mk c53
                            clear c53
                            obtain ⟨y233, hy233⟩ : ∃ y_ : List Int, y_ = ((rd_L5 x14_2 x52_1) ++ [rd l2 a1]) := ⟨_, rfl⟩
                            replace H : ((grp.f k2 (x14_2.set (x52_1 : Int).toNat y233) (wrap64 (a1 + 1)) l2 l3 x95_1).bind fun t237 => (grp.l2 k2 l0 a1 l2 l3 (wrap64 ((l0.length : Int) + 1)) (wrap64 (x52_1 + 1)) t237)) = some r := by first | (rw [hy233]; with_reducible exact H) | (have H2_ := (Option.bind_some _ _).symm.trans H; rw [hy233]; with_reducible exact H2_) | (have H2_ := (Option.bind_some _ _).symm.trans H; with_reducible exact H2_) | with_reducible exact H | (rw [hy233]; exact H) | exact H
                            have Ny233 := Aside0.mk hy233
                            clear hy233
                            obtain ⟨y236, hy236⟩ : ∃ y_ : List (List Int), y_ = (x14_2.set (x52_1 : Int).toNat y233) := ⟨_, rfl⟩
                            replace H : ((grp.f k2 y236 (wrap64 (a1 + 1)) l2 l3 x95_1).bind fun t237 => (grp.l2 k2 l0 a1 l2 l3 (wrap64 ((l0.length : Int) + 1)) (wrap64 (x52_1 + 1)) t237)) = some r := by first | (rw [hy236]; with_reducible exact H) | (have H2_ := (Option.bind_some _ _).symm.trans H; rw [hy236]; with_reducible exact H2_) | (have H2_ := (Option.bind_some _ _).symm.trans H; with_reducible exact H2_) | with_reducible exact H | (rw [hy236]; exact H) | exact H
                            have Ny236 := Aside0.mk hy236
                            clear hy236
                            replace H := Option.bind_eq_some_iff.mp H
                            obtain ⟨t237, A550, H⟩ := H
                            replace H : (grp.l2 k2 l0 a1 l2 l3 (wrap64 ((l0.length : Int) + 1)) (wrap64 (x52_1 + 1)) t237) = some r := H
                            have A55 := Aside0.mk A550
                            clear A550
                            have H' := Aside0.mk H
                            clear H
                            try go_wp2
                            have n0_ := Aside0.mk (Kd.S_drew HO_14.out)
                            have n1_ := Aside0.mk (below_drew1 HB.out)
                            clear HO_14
                            clear HB
                            have HO_14 := n0_
                            have HB := n1_
                            clear n0_ n1_
                            obtain ⟨Ao57, co57, eo57⟩ := Kd.S_slice HO_14.out
                            (first | subst eo57 | (injection eo57 with f1_ f2_ f3_; have f4_ := f1_.symm; have f5_ := f3_.symm; clear f1_ f2_ f3_; subst f4_; subst f5_))
                            have p231 : 0 ≤ (x52_1 : Int) := of_decide_eq_true (by first | (with_reducible assumption) | assumption)
                            have q231 : x52_1 < (x14_2.length : Int) := of_decide_eq_true (by first | (with_reducible assumption) | assumption)
                            obtain ⟨ad231, A231_0, c231_0, e231, hx231_0, hl231_0, hi231_0⟩ := at_L5 (Kd.S_reads' HO_14.out).2.2 x52_1 p231 q231
                            cases e231
                            obtain ⟨ce231, hce231, hMe231, hcc231⟩ := Kd.S_get HO_14.out [] x52_1 p231 (by first | exact q231 | exact of_decide_eq_true (by first | (with_reducible assumption) | assumption) | (have e_ := (Kd.S_reads' HO_14.out).1; omega))
                            obtain ⟨ve231_0, rfl, ge231_0⟩ := hMe231
                            have hv231_0 := hcc231 0 _ rfl
                            rw [Nat.add_zero, show ((Kd.slice 3 (Kd.int .i64))).sz = 1 from rfl, Nat.mul_one] at hv231_0
                            replace hv231_0 := Option.some.inj (hv231_0.symm.trans hx231_0)
                            rw [hv231_0] at ge231_0
                            have HL231_0 := Aside0.mk (show Kd.R (Kd.int .i64) 3 _ _ _ _ (rd_L5 x14_2 x52_1) from ge231_0)
                            clear hv231_0 ge231_0
                            have HX231_0 := Aside0.mk hx231_0
                            clear hcc231 hce231
                            have HR231_0 := Aside0.mk hi231_0
                            have HC231_0 := Aside0.mk hl231_0
                            clear hi231_0 hl231_0
                            replace p231 := eq_true p231
                            replace q231 := eq_true q231
                            have p232 : 0 ≤ (a1 : Int) := of_decide_eq_true (by first | (with_reducible assumption) | assumption)
                            have q232 : a1 < (l2.length : Int) := of_decide_eq_true (by first | (with_reducible assumption) | assumption)
                            obtain ⟨ad232, e232, hx232_0⟩ := Kd.at_int HR2.out a1 p232 q232
                            have hw232_0 := hx232_0
                            cases e232
                            (try replace hx232_0 := (HB.out.cell (World.block_lt_of_cell? wo _ hx232_0)).trans hx232_0)
                            replace p232 := eq_true p232
                            replace q232 := eq_true q232
                            obtain ⟨go58, co58, eo58, gb58, gl58, cl58, HG58⟩ := Kd.S_form HO_14.out (by have h_ : (x52_1 : Int) < ((x14_2.length : Int) : Int) := of_decide_eq_true (by first | (with_reducible assumption) | assumption); have h2_ : 0 ≤ (x52_1 : Int) := (of_decide_eq_true (by first | (with_reducible assumption) | assumption)); omega)
                            (first | cases eo58 | (injection eo58 with ea_ en_ ec_; (first | subst ea_ | (injection ea_ with ea_; subst ea_)); subst ec_; clear en_))
                            have GB58 := Aside0.mk gb58
                            have GG58 := Aside0.mk HG58
                            clear gb58 gl58 HG58
                            (first | simp only [add_plain] at hx231_0 | skip)
                            obtain ⟨oki58, ce58, hcl58, hM58, hcc58, _, _, hH58⟩ := Kd.S_elem HO_14.out [] (x52_1 : Int) (of_decide_eq_true (by first | (with_reducible assumption) | assumption)) (by have h_ : (x52_1 : Int) < ((x14_2.length : Int) : Int) := of_decide_eq_true (by first | (with_reducible assumption) | assumption); first | exact h_ | (have e_ := (Kd.S_reads' HO_14.out).1; omega) | simpa using h_)
                            obtain ⟨ve58_0, rfl, ge58_0⟩ := hM58
                            have hv58 := hcc58 0 _ rfl
                            have hX58 := HX231_0.out
                            (try simp only [add_plain] at hX58)
                            (try simp only [Nat.add_zero] at hv58)
                            (try rw [show ((Kd.slice 3 (Kd.int .i64))).sz = 1 from rfl, Nat.mul_one] at hv58)
                            replace hv58 := Option.some.inj (hv58.symm.trans hX58)
                            subst hv58
                            clear hX58 hcc58 hcl58
                            have UU58 := Aside0.mk (show Kd.R (Kd.int .i64) 3 _ wo.heap.size oki58 (.slice A231_0 (rd_L5 x14_2 x52_1).length c231_0) (rd_L5 x14_2 x52_1) from ge58_0)
                            have HH58 := Aside0.mk hH58
                            have HN58 := Aside0.mk (Kd.S_reads' HO_14.out).1
                            clear hH58 ge58_0
                            refine start_ (n := 14) (S := fun w' => w'.cell? ⟨go58, (x52_1).toNat, none⟩ = some (.slice A231_0 (rd_L5 x14_2 x52_1).length c231_0) ∧ w'.cell? (ad232.add (a1).toNat) = some (.int .i64 (rd l2 a1)) ∧ w'.cell? ⟨bp, 0, none⟩ = some (.slice (some ad232) l2.length c2)) (ds := [13]) #[false, false, false, false, false, false, false, false, false, false, false, false, false, false] (by kernel_rfl) rfl rfl ⟨hx231_0, ((HB.out.cell (World.block_lt_of_cell? wo _ hw232_0)).trans hw232_0), ((HB.out.cell (World.block_lt_of_cell? wo _ HP0.out)).trans HP0.out)⟩ (fun hHeld => ?_); refine with_tabW grp.tab25 grp.bits25 (fun HT_ HW_ => ?_)
                            generalize wr.drew = w56 at HO_14 HB GG58 HH58 HL231_0 HR231_0 HX231_0 UU58 hx231_0 hx232_0 hHeld ⊢
                            refine pure_ (i := 0) (N := some 76) (v := ?_) (a' := ?_) #[true, false, false, false, false, false, false, false, false, false, false, false, false, false] rfl rfl (any_of HT_.out (by kernel_rfl)) (fun _ _ _ h => h) (Or.inl ⟨by rfl, ?_⟩) ?_ ?_
                            rotate_left
                            · intro w'
                              go_simp
                              with_reducible rfl
                            rotate_left
                            · simp only [Act.put, List.setIfInBounds_toArray, List.set_cons_zero, List.set_cons_succ, i64_w, i32_w]
                              rfl
                            refine pure_ (i := 1) (N := some 77) (v := ?_) (a' := ?_) #[true, true, false, false, false, false, false, false, false, false, false, false, false, false] rfl rfl (any_of HT_.out (by kernel_rfl)) (fun _ _ _ h => h) (Or.inl ⟨by rfl, ?_⟩) ?_ ?_
                            rotate_left
                            · intro w'
                              go_simp
                              with_reducible rfl
                            rotate_left
                            · simp only [Act.put, List.setIfInBounds_toArray, List.set_cons_zero, List.set_cons_succ, i64_w, i32_w]
                              rfl
                            refine pure_ (i := 2) (N := some 78) (v := ?_) (a' := ?_) #[true, true, true, false, false, false, false, false, false, false, false, false, false, false] rfl rfl (any_of HT_.out (by kernel_rfl)) (fun _ _ _ h => h) (Or.inl ⟨by rfl, ?_⟩) ?_ ?_
                            rotate_left
                            · intro w'
                              go_simp
                              with_reducible rfl
                            rotate_left
                            · simp only [Act.put, List.setIfInBounds_toArray, List.set_cons_zero, List.set_cons_succ, i64_w, i32_w]
                              rfl
                            refine pure_ (i := 3) (N := some 79) (v := ?_) (a' := ?_) #[true, true, true, true, false, false, false, false, false, false, false, false, false, false] rfl rfl (any_of HT_.out (by kernel_rfl)) (fun _ _ _ h => h) (Or.inl ⟨by rfl, ?_⟩) ?_ ?_
                            rotate_left
                            · intro w'
                              go_simp
                              with_reducible rfl
                            rotate_left
                            · simp only [Act.put, List.setIfInBounds_toArray, List.set_cons_zero, List.set_cons_succ, i64_w, i32_w]
                              rfl
                            refine pure_ (i := 4) (N := some 80) (v := ?_) (a' := ?_) #[true, true, true, true, true, false, false, false, false, false, false, false, false, false] rfl rfl (any_of HT_.out (by kernel_rfl)) (fun _ _ _ h => h) (Or.inl ⟨by rfl, ?_⟩) ?_ ?_
                            rotate_left
                            · intro w'
                              go_simp
                              with_reducible rfl
                            rotate_left
                            · simp only [Act.put, List.setIfInBounds_toArray, List.set_cons_zero, List.set_cons_succ, i64_w, i32_w]
                              rfl
                            refine take_ (i := 6) (N := some 82) (v := ?_) (a' := ?_) #[true, true, true, true, true, false, true, false, false, false, false, false, false, false] rfl rfl (take_ofW HT_.out HW_.out (by kernel_rfl)) (fun _ _ _ h => h) (Or.inl ⟨by rfl, ?_⟩) hHeld ?_ ?_
                            rotate_left
                            · rintro w' ⟨s0, s1, s2⟩
                              go_simp
                              with_reducible rfl
                            rotate_left
                            · simp only [Act.put, List.setIfInBounds_toArray, List.set_cons_zero, List.set_cons_succ, i64_w, i32_w]
                              rfl
                            refine pure_ (i := 7) (N := some 83) (v := ?_) (a' := ?_) #[true, true, true, true, true, false, true, true, false, false, false, false, false, false] rfl rfl (any_of HT_.out (by kernel_rfl)) (fun _ _ _ h => h) (Or.inl ⟨by rfl, ?_⟩) ?_ ?_
                            rotate_left
                            · intro w'
                              go_simp
                              with_reducible rfl
                            rotate_left
                            · simp only [Act.put, List.setIfInBounds_toArray, List.set_cons_zero, List.set_cons_succ, i64_w, i32_w]
                              rfl
                            refine pure_ (i := 8) (N := some 84) (v := ?_) (a' := ?_) #[true, true, true, true, true, false, true, true, true, false, false, false, false, false] rfl rfl (any_of HT_.out (by kernel_rfl)) (fun _ _ _ h => h) (Or.inl ⟨by rfl, ?_⟩) ?_ ?_
                            rotate_left
                            · intro w'
                              go_simp
                              with_reducible rfl
                            rotate_left
                            · simp only [Act.put, List.setIfInBounds_toArray, List.set_cons_zero, List.set_cons_succ, i64_w, i32_w]
                              rfl
                            refine take_ (i := 5) (N := some 81) (v := ?_) (a' := ?_) #[true, true, true, true, true, true, true, true, true, false, false, false, false, false] rfl rfl (take_ofW HT_.out HW_.out (by kernel_rfl)) (fun _ _ _ h => h) (Or.inl ⟨by rfl, ?_⟩) hHeld ?_ ?_
                            rotate_left
                            · rintro w' ⟨s0, s1, s2⟩
                              go_simp
                              with_reducible rfl
                            rotate_left
                            · simp only [Act.put, List.setIfInBounds_toArray, List.set_cons_zero, List.set_cons_succ, i64_w, i32_w]
                              rfl
                            refine take_ (i := 9) (N := some 85) (v := ?_) (a' := ?_) #[true, true, true, true, true, true, true, true, true, true, false, false, false, false] rfl rfl (take_ofW HT_.out HW_.out (by kernel_rfl)) (fun _ _ _ h => h) (Or.inl ⟨by rfl, ?_⟩) hHeld ?_ ?_
                            rotate_left
                            · rintro w' ⟨s0, s1, s2⟩
                              go_simp
                              with_reducible rfl
                            rotate_left
                            · simp only [Act.put, List.setIfInBounds_toArray, List.set_cons_zero, List.set_cons_succ, i64_w, i32_w]
                              rfl
                            refine one_ (i := 10) (N := some 86) #[true, true, true, true, true, true, true, true, true, true, true, false, false, false] rfl rfl (one_of HT_.out (by kernel_rfl)) (by decide) (fun K hK => ?_)
                            refine value_ (w1 := ?_) (v := ?_) (by rfl) rfl ?_ ?_
                            rotate_left 2
                            · go_simp
                              constructor
                              · rfl
                              · rfl
                            refine hK.out _ _ ⟨(World.cell?_alloc_lt _ _ _ (World.block_lt_of_cell? _ _ (hHeld.1))).trans (hHeld.1), (World.cell?_alloc_lt _ _ _ (World.block_lt_of_cell? _ _ (((HB.out.cell (World.block_lt_of_cell? wo _ hw232_0)).trans hw232_0)))).trans (((HB.out.cell (World.block_lt_of_cell? wo _ hw232_0)).trans hw232_0)), (World.cell?_alloc_lt _ _ _ (World.block_lt_of_cell? _ _ (hHeld.2.2))).trans (hHeld.2.2)⟩ (fun hHeld => ?_)
                            clear hK K
                            refine norm_ (a' := ?_) ?_ ?_
                            rotate_left
                            · show Act.put _ (some 86) _ = _
                              simp only [Act.put, List.setIfInBounds_toArray, List.set_cons_zero, List.set_cons_succ, i64_w, i32_w]
                              rfl
                            refine one_ (i := 11) (N := some 87) #[true, true, true, true, true, true, true, true, true, true, true, true, false, false] rfl rfl (one_of HT_.out (by kernel_rfl)) (by decide) (fun K hK => ?_)
                            refine Kd.R_append_step (Kd.int .i64) (w0 := wo) wo.heap.size (by rfl) (.tmp 81) (.tmp 86) 48 3 (.int .i64 0) 8 rfl Try.underlying48 info3 rfl (by decide) (by omega) (.slice A231_0 (rd_L5 x14_2 x52_1).length c231_0) (rd_L5 x14_2 x52_1) (rd l2 a1) [.int .i64 (rd l2 a1)] (fun k_ => oki58 k_ ∨ ((fun _ => True)) k_ ∧ w56.heap.size ≤ k_) (fun _ => False) rfl rfl ?aP (fun _ hk => hk.elim) ?aF ?aO ?aB ?aS ?aL ?_
                            (case aP => exact rfl)
                            (case aB => exact (by repeat (first | (with_reducible first | exact HB.out | apply below_alloc | apply pw_below_drewN | apply below_drew1) | exact HB.out)))
                            (case aF => exact (fun k_ hk => .inr ⟨trivial, hk⟩))
                            (case aO => exact (by (with_reducible repeat (first | apply Kd.R_alloc | apply Kd.R_drewN | apply Kd.R_drew)); exact Kd.R_mono UU58.out (fun _ hk => .inl hk)))
                            (case aS => exact (below_size (by repeat (first | (with_reducible first | exact HB.out | apply below_alloc | apply pw_below_drewN | apply below_drew1) | exact HB.out))))
                            (case aL => have := LMc53.out; omega)
                            intro v234 w59 ho hb hg hat
                            (first | have HS0_ := cell_grown hg (hHeld.1) (by first | (rw [add_block]; exact (fun e_ => ((HL231_0.out.1 _ e_.symm).2) rfl)) | (show some (Addr.add _ _).block ≠ _; rw [add_block]; exact (fun e_ => ((HL231_0.out.1 _ e_.symm).2) rfl)) | exact (fun e_ => ((HL231_0.out.1 _ e_.symm).2) rfl)) | have HS0_ := cell_grown hg (cell_unalloc (hHeld.1) (by first | (rw [add_block]; exact Kd.S_lt HO_14.out _ rfl) | (show (Addr.add _ _).block < _; rw [add_block]; exact Kd.S_lt HO_14.out _ rfl) | exact Kd.S_lt HO_14.out _ rfl)) (by first | (rw [add_block]; exact (fun e_ => ((HL231_0.out.1 _ e_.symm).2) rfl)) | (show some (Addr.add _ _).block ≠ _; rw [add_block]; exact (fun e_ => ((HL231_0.out.1 _ e_.symm).2) rfl)) | exact (fun e_ => ((HL231_0.out.1 _ e_.symm).2) rfl)))
                            rw [← Ny233.out] at ho
                            have n0_ := Aside0.mk (hb)
                            have n1_ := Aside0.mk (Kd.H_grown (Kd.H_widen (by repeat (first | exact HH58.out | refine Kd.H_alloc ?_ _ | refine Kd.H_drewN ?_ _ | refine Kd.H_drew ?_))) hg (fun k_ e_ => .inl (UU58.out.1 k_ e_)))
                            have n2_ := Aside0.mk (ho)
                            clear HB
                            clear HH58
                            clear HO_14
                            clear UU58
                            clear HL231_0
                            have HB := n0_
                            have HH58 := n1_
                            have HO235 := n2_
                            clear n0_ n1_ n2_
                            clear ho hb hg hat
                            have p54 : 0 ≤ (x52_1 : Int) := of_decide_eq_true (by first | (with_reducible assumption) | assumption)
                            have q54 : (x52_1 : Int) < ((x14_2.length : Int) : Int) := of_decide_eq_true (by first | (with_reducible assumption) | assumption)
                            replace p54 := eq_true p54
                            replace q54 := eq_true q54
                            obtain ⟨Ao62, co62, eo62⟩ := Kd.R_slice HO235.out
                            (first | subst eo62 | (injection eo62 with f1_ f2_ f3_; have f4_ := f1_.symm; have f5_ := f3_.symm; clear f1_ f2_ f3_; subst f4_; subst f5_))
                            obtain ⟨_, _, hraw60, _, _, hcc60, _⟩ := Kd.H_raw HH58.out (of_decide_eq_true (by first | (with_reducible assumption) | assumption)) (by have h_ : (x52_1 : Int) < ((x14_2.length : Int) : Int) := of_decide_eq_true (by first | (with_reducible assumption) | assumption); first | exact h_ | (have e_ := (HN58.out); omega) | simpa using h_)
                            obtain ⟨_, hfr60⟩ := Kd.H_at HH58.out (of_decide_eq_true (by first | (with_reducible assumption) | assumption)) (by have h_ : (x52_1 : Int) < ((x14_2.length : Int) : Int) := of_decide_eq_true (by first | (with_reducible assumption) | assumption); first | exact h_ | (have e_ := (HN58.out); omega) | simpa using h_)
                            have hx60_0 := hcc60 0 _ rfl
                            have hf60_0 := hfr60 0
                            (try simp only [Nat.add_zero] at hx60_0 hf60_0)
                            (try rw [show ((Kd.slice 3 (Kd.int .i64))).sz = 1 from rfl, Nat.mul_one] at hx60_0)
                            (try rw [show ((Kd.slice 3 (Kd.int .i64))).sz = 1 from rfl, Nat.mul_one] at hf60_0)
                            have HP60 := Kd.S_seg0 HH58.out (of_decide_eq_true (by first | (with_reducible assumption) | assumption)) (by have h_ : (x52_1 : Int) < ((x14_2.length : Int) : Int) := of_decide_eq_true (by first | (with_reducible assumption) | assumption); first | exact h_ | (have e_ := (HN58.out); omega) | simpa using h_) (seg := [.slice Ao62 y233.length co62]) (j := 0) (show 1 ≤ 1 from by decide) (x' := y233) (Kd.M_row HO235.out) (fun _ hk => hk)
                            (try simp only [show ((Kd.slice 3 (Kd.int .i64))).sz = 1 from rfl, Nat.mul_one, Nat.add_zero] at HP60)
                            clear hcc60 hfr60
                            have HS60 := HP60.1
                            rw [← Ny236.out] at HS60
                            have HQ60 := Aside0.mk HS60
                            obtain ⟨_, hgg60⟩ := Kd.R_typed hraw60 go58 rfl
                            have GG60_ := Aside0.mk hgg60
                            clear HP60 HS60 hgg60
                            refine hK.out _ _ ⟨HS0_, ((HB.out.cell (World.block_lt_of_cell? wo _ hw232_0)).trans hw232_0), ((HB.out.cell (World.block_lt_of_cell? wo _ HP0.out)).trans HP0.out)⟩ (fun hHeld => ?_)
                            clear hK K
                            refine norm_ (a' := ?_) ?_ ?_
                            rotate_left
                            · show Act.put _ (some 87) _ = _
                              simp only [Act.put, List.setIfInBounds_toArray, List.set_cons_zero, List.set_cons_succ, i64_w, i32_w]
                              rfl
                            refine pure_ (i := 12) (N := some 88) (v := ?_) (a' := ?_) #[true, true, true, true, true, true, true, true, true, true, true, true, true, false] rfl rfl (any_of HT_.out (by kernel_rfl)) (fun _ _ _ h => h) (Or.inl ⟨by rfl, ?_⟩) ?_ ?_
                            rotate_left
                            · intro w'
                              go_simp
                              with_reducible rfl
                            rotate_left
                            · simp only [Act.put, List.setIfInBounds_toArray, List.set_cons_zero, List.set_cons_succ, i64_w, i32_w]
                              rfl
                            refine last_ (i := 13) (N := none) #[true, true, true, true, true, true, true, true, true, true, true, true, true, true] rfl rfl (one_of HT_.out (by kernel_rfl)) (by decide) (fun K hK => ?_)
                            refine skip_ (w1 := ?_) (by rfl) rfl ?_ ?_
                            rotate_left
                            · go_simp
                              rfl
                            refine hK.out _ _ ?_
                            clear hK K
                            refine done_ (done_of HT_.out (by kernel_rfl)) ?_
                            first
                              | refine Grp.reletE (F := fun W => Below wo.heap.size wo W ∧ Kd.S (Kd.slice 3 (Kd.int .i64)) 48 W wo.heap.size (fun _ => True) (.slice (some ⟨go58, 0, none⟩) x14_2.length co57) y236) ⟨by repeat (first | (with_reducible first | exact HB.out | apply below_alloc | apply pw_below_drewN | apply below_drew1 | refine below_set ?_ GB58.out) | exact HB.out), HQ60.out⟩ ?_
                              | refine Grp.reletI (F := fun W => Below wo.heap.size wo W ∧ Kd.S (Kd.slice 3 (Kd.int .i64)) 48 W wo.heap.size (fun _ => True) (.slice (some ⟨go58, 0, none⟩) x14_2.length co57) y236) ⟨by repeat (first | (with_reducible first | exact HB.out | apply below_alloc | apply pw_below_drewN | apply below_drew1 | refine below_set ?_ GB58.out) | exact HB.out), HQ60.out⟩ ?_
                              | refine Grp.reletC (F := fun W => Below wo.heap.size wo W ∧ Kd.S (Kd.slice 3 (Kd.int .i64)) 48 W wo.heap.size (fun _ => True) (.slice (some ⟨go58, 0, none⟩) x14_2.length co57) y236) ⟨by repeat (first | (with_reducible first | exact HB.out | apply below_alloc | apply pw_below_drewN | apply below_drew1 | refine below_set ?_ GB58.out) | exact HB.out), HQ60.out⟩ ?_
                            rintro wq ⟨hbq, hsq⟩
                            have hEq := HEr.out.below hbq
                            have hlen_ := (Kd.S_reads' hsq).1
                            have hcall := ih k2 (by have := HK1.out; have := HK2.out; omega) (some ⟨go58, 0, none⟩) co57 y236 (wrap64 (a1 + 1)) x95_1 t237 wq hEq (hEq.own HEr.out.sz hsq) (by have := (Kd.S_reads' hsq).2.1; omega) A55.out
                            rw [← hlen_] at hcall
                            have HC_ := Aside0.mk hcall
                            have HBq := Aside0.mk hbq
                            have hXq := hEq.xc
                            clear hcall hbq hsq hEq hlen_
                            have eg := EG.out
                            go_wp2_with (go_at_fn 42; refine HC_.out.mono ?_; rintro e w' ⟨rfl, hE', hK'⟩; have HE' := Aside0.mk hE'; have HK' := Aside0.mk hK'; clear hE' hK')
                            clear eg
                            go_roundg k2
                            case measure => have := HK1.out; have := HK2.out; omega
                            case rel => exact ⟨(wrap64 (x52_1 + 1)), (t237), (by first | rfl | (simp; done) | (simp [*]; done)), H', ⟨by have := HK1.out; have := HK2.out; omega⟩, HE', ⟨Kd.F_keep (Kd.F_below HFr.out HBq.out) HK'.out.keep (fun _ h => h.2)⟩, ⟨HKr.out.trans ((Grp.Fr.of_below HBq.out bb).trans HK'.out)⟩⟩
                          · rw [if_neg c53] at H
                            exact absurd H (by simp)
                        · rw [if_neg c52] at H
                          exact absurd H (by simp)
                      · rw [if_neg c51] at H
                        exact absurd H (by simp)
                    · rw [if_neg c50] at H
                      exact absurd H (by simp)
                  · rw [if_neg c49] at H
                    exact absurd H (by simp)
        · rw [if_neg c17] at H
          have c17b0 : decide (x52_1 < (wrap64 ((l0.length : Int) + 1))) = false := decide_eq_false c17
          clear c17
          obtain rfl := Option.some.inj H
          go_wp2
          first | go_end0 | (simp only [Exit.inBlock, Exit.then]; refine bodyPost_ret (results_none rfl _ _ _) rfl ?_) | refine bodyPost_ret (results_none rfl _ _ _) rfl ?_
          exact ⟨rfl, HEr.out, HKr.out⟩
def impl_groupsOf.f (k : Nat) (l0 l1 : List Int) : Option (List (List Int)) := grp.f k [] 0 l1 l0 []
theorem impl_groupsOf.mono (a0 a1 : List Int) (k : Nat) : LeO (impl_groupsOf.f k a0 a1) (impl_groupsOf.f (k + 1) a0 a1) := grp.mono _ _ _ _ _ k
set_option maxHeartbeats 8000000 in
set_option maxRecDepth 100000 in
theorem impl_groupsOf.calls (k : Nat) (A0 : Option Addr) (c0 : Nat) (l0 : List Int) (A1 : Option Addr) (c1 : Nat) (l1 : List Int) (r : List (List Int)) (w : World) (hr0 : Kd.C (Kd.int .i64) w A0 l0.length l0) (hc0 : l0.length ≤ c0) (hr1 : Kd.C (Kd.int .i64) w A1 l1.length l1) (hc1 : l1.length ≤ c1) (h : impl_groupsOf.f k l0 l1 = some r) :
    Calls Try.prog 25 #[.slice A0 l0.length c0, .slice A1 l1.length c1] w fun e w' => (∃ A c, e = .returned (.slice A r.length c) ∧ r.length ≤ c ∧ Kd.F (Kd.slice 3 (Kd.int .i64)) w' (fun k => w.heap.size ≤ k) A r.length r) ∧ Below w.heap.size w w' := by
  have eg : ∀ args w, (callFunc 42 args).run Try.prog w = .ok (.enter 42 args) w := enters_of Try.func42 (by kernel_rfl) rfl
  have EG := Aside0.mk eg
  have HR0 := Aside0.mk hr0
  have HR1 := Aside0.mk hr1
  have H := Aside0.mk h
  clear hr0 hr1 h eg
  go_enter Try.func25, Try.ntmps25
  go_wp2_with (first
    | ((with_reducible refine gate_dst (N := 7) rfl ?_); refine Kd.R_lit (Kd.slice 3 (Kd.int .i64)) _ 48 ?hg (N := 7) ?hd (xs := ([] : List (List Int))) (inner := []) (ok := fun _ => True) (okp := fun _ => True) ?hr ?hp (fun _ hk => hk) trivial (Below.refl _ _) (Nat.le_refl _) (by simp) ?_; (case hd => rfl); (case hg => rfl); (case hr => first | (go_simp; done) | (go_simp; rfl)); (case hp => exact (Reps.none _ _)); intro v7 w7 ho7 hb7 hg_ hnew_; clear hg_ hnew_; have HO7 := Aside0.mk ho7; have HB7 := Aside0.mk hb7; clear ho7 hb7; obtain ⟨A7, c7, e7⟩ := Kd.R_slice HO7.out; subst e7)
    | ((with_reducible refine gate_dst (N := 10) rfl ?_); fail))
  have hsz2 : ((w.alloc (.cells #[.slice A0 l0.length c0] 22)).alloc (.cells #[.slice A1 l1.length c1] 48)).heap.size = w.heap.size + 2 := by simp
  have hs7 := HB7.out.size
  rw [hsz2] at hs7
  have n7 : w7.heap[w.heap.size]? = some (.cells #[.slice A0 l0.length c0] 22 (0, 0)) := blk_below (blk_alloc (blk_new w _) _) HB7.out
  have p7 : w7.heap[w.heap.size + 1]? = some (.cells #[.slice A1 l1.length c1] 48 (0, 0)) := blk_below (by have h_ := blk_new (w.alloc (.cells #[.slice A0 l0.length c0] 22)) (.cells #[.slice A1 l1.length c1] 48); simpa using h_) HB7.out
  have hw7 : Below w.heap.size w w7 := Below.trans (((Below.refl _ _).alloc (Nat.le_refl _) _).alloc (by simp) _) (HB7.out.mono (by simp; omega))
  have hr7 := Kd.R_reads' HO7.out
  have hE : Grp.Env (((w7.alloc (.cells #[.slice A7 0 c7] 52)).alloc (.cells #[.func (.func 42) #[] #[.pointer (some ⟨w.heap.size + 1, 0, none⟩), .pointer (some ⟨w.heap.size, 0, none⟩), .pointer (some ⟨w7.heap.size, 0, none⟩), .pointer (some ⟨w7.heap.size + 1, 0, none⟩)]] 68)).alloc (.cells #[] 48)) (w.heap.size + 1) w.heap.size w7.heap.size (w7.heap.size + 1) w.heap.size A1 c1 l1 A0 c0 l0 [] :=
    ⟨blk_alloc (blk_alloc (blk_alloc p7 _) _) _, blk_alloc (blk_alloc (blk_alloc n7 _) _) _,
      by have h_ := blk_new (w7.alloc (.cells #[.slice A7 0 c7] 52)) (.cells #[.func (.func 42) #[] #[.pointer (some ⟨w.heap.size + 1, 0, none⟩), .pointer (some ⟨w.heap.size, 0, none⟩), .pointer (some ⟨w7.heap.size, 0, none⟩), .pointer (some ⟨w7.heap.size + 1, 0, none⟩)]] 68); have h2_ := blk_alloc h_ (.cells #[] 48); simpa using h2_,
      ⟨A7, c7, blk_alloc (blk_alloc (blk_new w7 _) _) _, hr7.2.1, Kd.F_alloc (Kd.F_alloc (Kd.F_alloc (Kd.F_mono (Kd.F_elderB (Kd.R_F (Kd.R_bound HO7.out)) w7.heap.size (Nat.le_refl _)) (fun _ hk => ⟨by have h_ := hk.1.2.1; rw [hsz2] at h_; omega, hk.2⟩)) _) _) _⟩,
      Kd.F_alloc (Kd.F_alloc (Kd.F_alloc (Kd.F_mono (Kd.F_below (Kd.C_F (Kd.heap_int .i64) HR1.out) hw7) (fun _ hk => by omega)) _) _) _,
      Kd.F_alloc (Kd.F_alloc (Kd.F_alloc (Kd.F_mono (Kd.F_below (Kd.C_F (Kd.heap_int .i64) HR0.out) hw7) (fun _ hk => by omega)) _) _) _,
      hc1, hc0, by omega, by omega, by omega, by simp; omega⟩
  have hF : Kd.F (Kd.slice 3 (Kd.int .i64)) (((w7.alloc (.cells #[.slice A7 0 c7] 52)).alloc (.cells #[.func (.func 42) #[] #[.pointer (some ⟨w.heap.size + 1, 0, none⟩), .pointer (some ⟨w.heap.size, 0, none⟩), .pointer (some ⟨w7.heap.size, 0, none⟩), .pointer (some ⟨w7.heap.size + 1, 0, none⟩)]] 68)).alloc (.cells #[] 48)) (fun k => w.heap.size ≤ k ∧ k ≠ w7.heap.size) (some ⟨w7.heap.size + 1 + 1, 0, none⟩) ([] : List (List Int)).length [] := fun _ _ => ⟨rfl, by simp, fun h_ => absurd h_ (Nat.lt_irrefl _)⟩
  have hb8 : Below w.heap.size w (((w7.alloc (.cells #[.slice A7 0 c7] 52)).alloc (.cells #[.func (.func 42) #[] #[.pointer (some ⟨w.heap.size + 1, 0, none⟩), .pointer (some ⟨w.heap.size, 0, none⟩), .pointer (some ⟨w7.heap.size, 0, none⟩), .pointer (some ⟨w7.heap.size + 1, 0, none⟩)]] 68)).alloc (.cells #[] 48)) := ((hw7.alloc (by omega) _).alloc (by simp; omega) _).alloc (by simp; omega) _
  have hsz8 : w.heap.size ≤ (((w7.alloc (.cells #[.slice A7 0 c7] 52)).alloc (.cells #[.func (.func 42) #[] #[.pointer (some ⟨w.heap.size + 1, 0, none⟩), .pointer (some ⟨w.heap.size, 0, none⟩), .pointer (some ⟨w7.heap.size, 0, none⟩), .pointer (some ⟨w7.heap.size + 1, 0, none⟩)]] 68)).alloc (.cells #[] 48)).heap.size := by simp; omega
  have hcall := grp.calls (w.heap.size + 1) w.heap.size w7.heap.size (w7.heap.size + 1) w.heap.size A1 c1 l1 A0 c0 l0 EG.out k (some ⟨w7.heap.size + 1 + 1, 0, none⟩) 0 [] 0 [] r _ hE hF (Nat.le_refl _) H.out
  have HC := Aside0.mk hcall
  have HB8 := Aside0.mk hb8
  have HS8 := Aside0.mk hsz8
  have HS7 := Aside0.mk hs7
  clear hcall hb8 hE hF hr7 hw7 p7 n7 hs7 hsz2 hsz8 HO7 HB7
  refine HC.out.mono ?_
  rintro e w9 ⟨rfl, hE9, hK9⟩
  obtain ⟨A9, c9, h91, h92, h93⟩ := hE9.b
  have x9 : w9.cell? ⟨w7.heap.size, 0, none⟩ = some (.slice A9 r.length c9) := (blk_cell h91 0).trans rfl
  have H93 := Aside0.mk (Kd.F_mono h93 (fun _ hk => hk.1))
  have HB9 := Aside0.mk (HB8.out.trans (hK9.below HS8.out (by have := HS7.out; omega)))
  clear h91 h93 hE9 hK9 HC HB8
  go_wp2
  go_ret
  exact ⟨⟨A9, c9, rfl, h92, H93.out⟩, HB9.out⟩
end Go.Proofs.Ytljkamjdpjaooaa.G
