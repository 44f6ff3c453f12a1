import Derived.Test.YthkifkfnlmjafaaZG0
import Derived.Test.YthkifkfnlmjafaaZWk
import Derived.Test.YthkifkfnlmjafaaZFRowOn
import Derived.Test.YthkifkfnlmjafaaZFVRow
import Derived.Test.YthkifkfnlmjafaaZG5
import Derived.Test.YthkifkfnlmjafaaZG4
import Derived.Test.YthkifkfnlmjafaaZG4
import Derived.Test.YthkifkfnlmjafaaZG4
import Derived.Test.YthkifkfnlmjafaaZG4
namespace Go.Proofs.Ythkifkfnlmjafaa.G
open Go.RowKit Go.Proofs.YthkifkfnlmjafaaW.PrintWords Go.Proofs.YthkifkfnlmjafaaW.PrintLast Go.Proofs.YthkifkfnlmjafaaW.PrintMore
attribute [local go_sem] max2_int min2_int max_two min_two max_three min_three max_four min_four
set_option linter.unusedVariables false
set_option linter.unusedSimpArgs false
open Go.Proofs.Ythkifkfnlmjafaa.Wk
def minusF : CntF := fun _ _ _ _ _ _ => some (-1)
set_option maxHeartbeats 1000000 in
theorem minus_1 (w0 : World) : ClosOk minusF 44 #[] w0 := by
  intro f0 f1 f2 f3 f4 f5 t ht W hW
  obtain rfl := Option.some.inj ht
  clear ht hW; go_enter Try.func44, Try.ntmps44
  go_wp2
  go_ret
  exact ⟨rfl, by first | exact Below.refl _ _ | exact (Below.refl _ _).alloc (Nat.le_refl _) _⟩
def mwalk.f (k : Nat) (l0 : List Int) (l1 : List S53) : Option (List Int) := impl_walked.f k l0 l1 minusF
theorem mwalk.mono : ∀ a0 a1 k, LeO (mwalk.f k a0 a1) (mwalk.f (k + 1) a0 a1) := fun a0 a1 k => impl_walked.mono _ _ _ _
theorem mwalk.calls (k : Nat) (A0 : Option Addr) (c0 : Nat) (l0 : List Int) (A1 : Option Addr) (c1 : Nat) (l1 : List S53) (r : List Int) (w : World) (hr0 : Kd.C (Kd.int .u8) w A0 l0.length l0) (hc0 : l0.length ≤ c0) (hr1 : Kd.C k53 w A1 l1.length l1) (hc1 : l1.length ≤ c1) (h : mwalk.f k l0 l1 = some r) :
    Calls Try.prog 43 #[.slice A0 l0.length c0, .slice A1 l1.length c1, .func (.func 44) #[] #[]] w fun e w' => ∃ v0_ : Value, e = .returned v0_ ∧ Kd.R (Kd.int .u8) 5 w' w.heap.size (fun _ => True) v0_ r ∧ Below w.heap.size w w' :=
  impl_walked.calls k A0 c0 l0 A1 c1 l1 minusF 44 #[] r w (enters_of Try.func44 (by kernel_rfl) rfl) (minus_1 w) hr0 hc0 hr1 hc1 h
mutual
def impl_MissedWalks.j0 : Nat → List Int → List (S53) → Int → List Int → Int → Option ((List (S64)) × Int)
  | 0, _, _, _, _, _ => none
  | k + 1, x0, x1, x2, x3, x10 => if x10 = 0 then (impl_MissedWalks.l0 k x0 x1 x2 x3 (([] : List (S64))) x1 (x1.length : Int) 0) else (some (([] : List (S64)), x10))
def impl_MissedWalks.l0 : Nat → List Int → List (S53) → Int → List Int → List (S64) → List (S53) → Int → Int → Option ((List (S64)) × Int)
  | 0, _, _, _, _, _, _, _, _ => none
  | k + 1, x0, x1, x2, x3, x11, x37, x38, x39 => if x39 < x38 then (if 0 ≤ x39 then (if x39 < (x37.length : Int) then ((impl_rowOn.f k x0 x1 x2).bind fun t230 => ((mwalk.f k t230 (([(⟨(rd_T53 x37 x39).f0, (rd_T53 x37 x39).f1, (rd_T53 x37 x39).f2, (rd_T53 x37 x39).f3, (rd_T53 x37 x39).f4, (rd_T53 x37 x39).f5⟩ : S53)] : List (S53)))).bind fun t236 => (impl_MissedWalks.l1 k x0 x1 x2 x3 x11 x39 t236 0 x37 x38 x39 ((rd_T53 x37 x39).f0) ((rd_T53 x37 x39).f1) ((rd_T53 x37 x39).f2) ((rd_T53 x37 x39).f3) ((rd_T53 x37 x39).f4) ((rd_T53 x37 x39).f5)))) else (none)) else (none)) else (some (x11, 0))
def impl_MissedWalks.l1 : Nat → List Int → List (S53) → Int → List Int → List (S64) → Int → List Int → Int → List (S53) → Int → Int → Int → Int → Int → Int → Int → Int → Option ((List (S64)) × Int)
  | 0, _, _, _, _, _, _, _, _, _, _, _, _, _, _, _, _, _ => none
  | k + 1, x0, x1, x2, x3, x11, x12, x14, x15, x37, x38, x39, x230000, x230001, x230002, x230003, x230004, x230005 => if x15 ≤ x2 then ((impl_Row_uint8_45.f k x14 x3).bind fun t239 => (impl_MissedWalks.j3 k x0 x1 x2 x3 x11 x12 x14 x15 x37 x38 x39 t239 x230000 x230001 x230002 x230003 x230004 x230005)) else (impl_MissedWalks.j3 k x0 x1 x2 x3 x11 x12 x14 x15 x37 x38 x39 false x230000 x230001 x230002 x230003 x230004 x230005)
def impl_MissedWalks.j3 : Nat → List Int → List (S53) → Int → List Int → List (S64) → Int → List Int → Int → List (S53) → Int → Int → Bool → Int → Int → Int → Int → Int → Int → Option ((List (S64)) × Int)
  | 0, _, _, _, _, _, _, _, _, _, _, _, _, _, _, _, _, _, _ => none
  | k + 1, x0, x1, x2, x3, x11, x12, x14, x15, x37, x38, x39, x58, x230000, x230001, x230002, x230003, x230004, x230005 => if x58 = true then ((impl_Walker_comes.f x230000 x230001 x230002 x230003 x230004 x230005 x15).bind fun t240 => (if t240 = true then (if x11.length < 8796093022208 then (impl_MissedWalks.l1 k x0 x1 x2 x3 (x11 ++ [(⟨x12, x15⟩ : S64)]) x12 x14 (wrap64 (x15 + 1)) x37 x38 x39 x230000 x230001 x230002 x230003 x230004 x230005) else (none)) else (impl_MissedWalks.l1 k x0 x1 x2 x3 x11 x12 x14 (wrap64 (x15 + 1)) x37 x38 x39 x230000 x230001 x230002 x230003 x230004 x230005))) else (impl_MissedWalks.l0 k x0 x1 x2 x3 x11 x37 x38 (wrap64 (x39 + 1)))
end
def impl_MissedWalks.f (k : Nat) (l0 : List Int) (l1 : List (S53)) (a2 : Int) (l3 : List Int) : Option ((List (S64)) × Int) := (impl_rowOk.f l0 l1).bind fun t217 => (if t217 = true then ((impl_ValidRow.f l3).bind fun t218 => (if t218 = true then ((impl_within.f a2 0 400).bind fun t219 => ((impl_codeOf.f ((l3.length : Int) == (l0.length : Int)) t219).bind fun t220 => (impl_MissedWalks.j0 k l0 l1 a2 l3 t220))) else ((impl_within.f a2 0 400).bind fun t221 => ((impl_codeOf.f false t221).bind fun t222 => (impl_MissedWalks.j0 k l0 l1 a2 l3 t222))))) else ((impl_within.f a2 0 400).bind fun t223 => ((impl_codeOf.f false t223).bind fun t224 => (impl_MissedWalks.j0 k l0 l1 a2 l3 t224))))
theorem impl_MissedWalks.mono_l : ∀ k, (∀ y0 y1 y2 y3 y4, LeO (impl_MissedWalks.j0 k y0 y1 y2 y3 y4) (impl_MissedWalks.j0 (k + 1) y0 y1 y2 y3 y4)) ∧ (∀ y0 y1 y2 y3 y4 y5 y6 y7, LeO (impl_MissedWalks.l0 k y0 y1 y2 y3 y4 y5 y6 y7) (impl_MissedWalks.l0 (k + 1) y0 y1 y2 y3 y4 y5 y6 y7)) ∧ (∀ y0 y1 y2 y3 y4 y5 y6 y7 y8 y9 y10 y11 y12 y13 y14 y15 y16, LeO (impl_MissedWalks.l1 k y0 y1 y2 y3 y4 y5 y6 y7 y8 y9 y10 y11 y12 y13 y14 y15 y16) (impl_MissedWalks.l1 (k + 1) y0 y1 y2 y3 y4 y5 y6 y7 y8 y9 y10 y11 y12 y13 y14 y15 y16)) ∧ (∀ y0 y1 y2 y3 y4 y5 y6 y7 y8 y9 y10 y11 y12 y13 y14 y15 y16 y17, LeO (impl_MissedWalks.j3 k y0 y1 y2 y3 y4 y5 y6 y7 y8 y9 y10 y11 y12 y13 y14 y15 y16 y17) (impl_MissedWalks.j3 (k + 1) y0 y1 y2 y3 y4 y5 y6 y7 y8 y9 y10 y11 y12 y13 y14 y15 y16 y17))
  | 0 => ⟨fun _ _ _ _ _ r h => by simp [impl_MissedWalks.j0] at h, fun _ _ _ _ _ _ _ _ r h => by simp [impl_MissedWalks.l0] at h, fun _ _ _ _ _ _ _ _ _ _ _ _ _ _ _ _ _ r h => by simp [impl_MissedWalks.l1] at h, fun _ _ _ _ _ _ _ _ _ _ _ _ _ _ _ _ _ _ r h => by simp [impl_MissedWalks.j3] at h⟩
  | k + 1 => by
    obtain ⟨ih0, ih1, ih2, ih3⟩ := impl_MissedWalks.mono_l k
    refine ⟨?_, ?_, ?_, ?_⟩
    · intro y0 y1 y2 y3 y4
      unfold impl_MissedWalks.j0
      repeat' first
      | (with_reducible exact ih0 _ _ _ _ _)
      | (with_reducible exact ih1 _ _ _ _ _ _ _ _)
      | (with_reducible exact ih2 _ _ _ _ _ _ _ _ _ _ _ _ _ _ _ _ _)
      | (with_reducible exact ih3 _ _ _ _ _ _ _ _ _ _ _ _ _ _ _ _ _ _)
      | (with_reducible exact impl_Row_uint8_45.mono _ _ _)
      | (with_reducible exact impl_rowOn.mono _ _ _ _)
      | (with_reducible exact mwalk.mono _ _ _)
      | (with_reducible exact LeO.refl _)
      | (with_reducible exact LeO.none _)
      | (with_reducible refine LeO.ite ?_ ?_)
      | (with_reducible refine LeO.bind ?_ (fun _ => ?_))
      | exact ih0 _ _ _ _ _
      | exact ih1 _ _ _ _ _ _ _ _
      | exact ih2 _ _ _ _ _ _ _ _ _ _ _ _ _ _ _ _ _
      | exact ih3 _ _ _ _ _ _ _ _ _ _ _ _ _ _ _ _ _ _
      | exact impl_Row_uint8_45.mono _ _ _
      | exact impl_rowOn.mono _ _ _ _
      | exact mwalk.mono _ _ _
      | exact LeO.none _
      | refine LeO.ite ?_ ?_
      | refine LeO.bind ?_ (fun _ => ?_)
    · intro y0 y1 y2 y3 y4 y5 y6 y7
      unfold impl_MissedWalks.l0
      repeat' first
      | (with_reducible exact ih0 _ _ _ _ _)
      | (with_reducible exact ih1 _ _ _ _ _ _ _ _)
      | (with_reducible exact ih2 _ _ _ _ _ _ _ _ _ _ _ _ _ _ _ _ _)
      | (with_reducible exact ih3 _ _ _ _ _ _ _ _ _ _ _ _ _ _ _ _ _ _)
      | (with_reducible exact impl_Row_uint8_45.mono _ _ _)
      | (with_reducible exact impl_rowOn.mono _ _ _ _)
      | (with_reducible exact mwalk.mono _ _ _)
      | (with_reducible exact LeO.refl _)
      | (with_reducible exact LeO.none _)
      | (with_reducible refine LeO.ite ?_ ?_)
      | (with_reducible refine LeO.bind ?_ (fun _ => ?_))
      | exact ih0 _ _ _ _ _
      | exact ih1 _ _ _ _ _ _ _ _
      | exact ih2 _ _ _ _ _ _ _ _ _ _ _ _ _ _ _ _ _
      | exact ih3 _ _ _ _ _ _ _ _ _ _ _ _ _ _ _ _ _ _
      | exact impl_Row_uint8_45.mono _ _ _
      | exact impl_rowOn.mono _ _ _ _
      | exact mwalk.mono _ _ _
      | exact LeO.none _
      | refine LeO.ite ?_ ?_
      | refine LeO.bind ?_ (fun _ => ?_)
    · intro y0 y1 y2 y3 y4 y5 y6 y7 y8 y9 y10 y11 y12 y13 y14 y15 y16
      unfold impl_MissedWalks.l1
      repeat' first
      | (with_reducible exact ih0 _ _ _ _ _)
      | (with_reducible exact ih1 _ _ _ _ _ _ _ _)
      | (with_reducible exact ih2 _ _ _ _ _ _ _ _ _ _ _ _ _ _ _ _ _)
      | (with_reducible exact ih3 _ _ _ _ _ _ _ _ _ _ _ _ _ _ _ _ _ _)
      | (with_reducible exact impl_Row_uint8_45.mono _ _ _)
      | (with_reducible exact impl_rowOn.mono _ _ _ _)
      | (with_reducible exact mwalk.mono _ _ _)
      | (with_reducible exact LeO.refl _)
      | (with_reducible exact LeO.none _)
      | (with_reducible refine LeO.ite ?_ ?_)
      | (with_reducible refine LeO.bind ?_ (fun _ => ?_))
      | exact ih0 _ _ _ _ _
      | exact ih1 _ _ _ _ _ _ _ _
      | exact ih2 _ _ _ _ _ _ _ _ _ _ _ _ _ _ _ _ _
      | exact ih3 _ _ _ _ _ _ _ _ _ _ _ _ _ _ _ _ _ _
      | exact impl_Row_uint8_45.mono _ _ _
      | exact impl_rowOn.mono _ _ _ _
      | exact mwalk.mono _ _ _
      | exact LeO.none _
      | refine LeO.ite ?_ ?_
      | refine LeO.bind ?_ (fun _ => ?_)
    · intro y0 y1 y2 y3 y4 y5 y6 y7 y8 y9 y10 y11 y12 y13 y14 y15 y16 y17
      unfold impl_MissedWalks.j3
      repeat' first
      | (with_reducible exact ih0 _ _ _ _ _)
      | (with_reducible exact ih1 _ _ _ _ _ _ _ _)
      | (with_reducible exact ih2 _ _ _ _ _ _ _ _ _ _ _ _ _ _ _ _ _)
      | (with_reducible exact ih3 _ _ _ _ _ _ _ _ _ _ _ _ _ _ _ _ _ _)
      | (with_reducible exact impl_Row_uint8_45.mono _ _ _)
      | (with_reducible exact impl_rowOn.mono _ _ _ _)
      | (with_reducible exact mwalk.mono _ _ _)
      | (with_reducible exact LeO.refl _)
      | (with_reducible exact LeO.none _)
      | (with_reducible refine LeO.ite ?_ ?_)
      | (with_reducible refine LeO.bind ?_ (fun _ => ?_))
      | exact ih0 _ _ _ _ _
      | exact ih1 _ _ _ _ _ _ _ _
      | exact ih2 _ _ _ _ _ _ _ _ _ _ _ _ _ _ _ _ _
      | exact ih3 _ _ _ _ _ _ _ _ _ _ _ _ _ _ _ _ _ _
      | exact impl_Row_uint8_45.mono _ _ _
      | exact impl_rowOn.mono _ _ _ _
      | exact mwalk.mono _ _ _
      | exact LeO.none _
      | refine LeO.ite ?_ ?_
      | refine LeO.bind ?_ (fun _ => ?_)
theorem impl_MissedWalks.mono : ∀ a0 a1 a2 a3 k, LeO (impl_MissedWalks.f k a0 a1 a2 a3) (impl_MissedWalks.f (k + 1) a0 a1 a2 a3) := by
  intro a0 a1 a2 a3 k
  obtain ⟨ih0, ih1, ih2, ih3⟩ := impl_MissedWalks.mono_l k
  unfold impl_MissedWalks.f
  repeat' first
      | (with_reducible exact ih0 _ _ _ _ _)
      | (with_reducible exact ih1 _ _ _ _ _ _ _ _)
      | (with_reducible exact ih2 _ _ _ _ _ _ _ _ _ _ _ _ _ _ _ _ _)
      | (with_reducible exact ih3 _ _ _ _ _ _ _ _ _ _ _ _ _ _ _ _ _ _)
      | (with_reducible exact impl_Row_uint8_45.mono _ _ _)
      | (with_reducible exact impl_rowOn.mono _ _ _ _)
      | (with_reducible exact mwalk.mono _ _ _)
      | (with_reducible exact LeO.refl _)
      | (with_reducible exact LeO.none _)
      | (with_reducible refine LeO.ite ?_ ?_)
      | (with_reducible refine LeO.bind ?_ (fun _ => ?_))
      | exact ih0 _ _ _ _ _
      | exact ih1 _ _ _ _ _ _ _ _
      | exact ih2 _ _ _ _ _ _ _ _ _ _ _ _ _ _ _ _ _
      | exact ih3 _ _ _ _ _ _ _ _ _ _ _ _ _ _ _ _ _ _
      | exact impl_Row_uint8_45.mono _ _ _
      | exact impl_rowOn.mono _ _ _ _
      | exact mwalk.mono _ _ _
      | exact LeO.none _
      | refine LeO.ite ?_ ?_
      | refine LeO.bind ?_ (fun _ => ?_)
def impl_MissedWalks.T8 : Bool × List (List Nat × List Nat) := (true, [([], []), ([], []), ([], []), ([0, 1, 2], [0, 1, 2]), ([], []), ([4], [4]), ([3, 5, 3], [3, 5]), ([6, 6, 0, 1, 2, 3, 4, 5, 6], [6])])
def impl_MissedWalks.B8 : List Nat := [0, 0, 0, 7, 0, 16, 63, 127]
theorem impl_MissedWalks.tab8 : rtab .any (opsOf Try.f18 8) = impl_MissedWalks.T8 := by kernel_rfl
theorem impl_MissedWalks.bits8 : waitsOk impl_MissedWalks.T8.2 impl_MissedWalks.B8 = true := by kernel_rfl
set_option maxHeartbeats 8000000 in
set_option maxRecDepth 100000 in
theorem impl_MissedWalks.calls (k : Nat) (A0 : Option Addr) (c0 : Nat) (l0 : List Int) (A1 : Option Addr) (c1 : Nat) (l1 : List (S53)) (a2 : Int) (A3 : Option Addr) (c3 : Nat) (l3 : List Int) (r1 : List (S64)) (r2 : Int) (w : World) (hr0 : Kd.C (Kd.int .u8) w A0 l0.length l0) (hc0 : l0.length ≤ c0) (hr1 : Kd.C k53 w A1 l1.length l1) (hc1 : l1.length ≤ c1) (hr3 : Kd.C (Kd.int .u8) w A3 l3.length l3) (hc3 : l3.length ≤ c3) (h : impl_MissedWalks.f k l0 l1 a2 l3 = some (r1, r2)) :
    Calls Try.prog 18 #[.slice A0 l0.length c0, .slice A1 l1.length c1, .int .i64 a2, .slice A3 l3.length c3] w fun e w' => ∃ v0_ : Value, e = .returned (.tuple #[v0_, .int .i64 r2]) ∧ Kd.R k64 64 w' w.heap.size (fun _ => True) v0_ r1 ∧ Below w.heap.size w w' := by
  have hu53 := Try.underlying53
  have hu64 := Try.underlying64
  have HR0 := Aside0.mk hr0; have HC0 := Aside0.mk hc0; clear hr0 hc0; have HR1 := Aside0.mk hr1; have HC1 := Aside0.mk hc1; clear hr1 hc1; have HR3 := Aside0.mk hr3; have HC3 := Aside0.mk hc3; clear hr3 hc3; have HB := Aside0.mk (Below.refl w.heap.size w)
  have H : ((impl_rowOk.f l0 l1).bind fun t217 => (if t217 = true then ((impl_ValidRow.f l3).bind fun t218 => (if t218 = true then ((impl_within.f a2 0 400).bind fun t219 => ((impl_codeOf.f ((l3.length : Int) == (l0.length : Int)) t219).bind fun t220 => (impl_MissedWalks.j0 k l0 l1 a2 l3 t220))) else ((impl_within.f a2 0 400).bind fun t221 => ((impl_codeOf.f false t221).bind fun t222 => (impl_MissedWalks.j0 k l0 l1 a2 l3 t222))))) else ((impl_within.f a2 0 400).bind fun t223 => ((impl_codeOf.f false t223).bind fun t224 => (impl_MissedWalks.j0 k l0 l1 a2 l3 t224))))) = some (r1, r2) := h
  clear h; have HC5 := Aside0.mk H; clear H; go_enter Try.func18, Try.ntmps18
  go_upto_region 1 with (fail)
  go_cut [10] (fun v10 wc => ∃ (kq : Nat) (x10_4 : Int), v10 = .int .i64 x10_4 ∧ Aside0 (impl_MissedWalks.j0 kq l0 l1 a2 l3 x10_4 = some (r1, r2)) ∧ Aside0 (kq ≤ k) ∧ Aside0 (Below w.heap.size w wc))
  case first =>
    have H := HC5.out; clear HC5; replace H := Option.bind_eq_some_iff.mp H; obtain ⟨t217, A60, H⟩ := H; replace H : (if t217 = true then ((impl_ValidRow.f l3).bind fun t218 => (if t218 = true then ((impl_within.f a2 0 400).bind fun t219 => ((impl_codeOf.f ((l3.length : Int) == (l0.length : Int)) t219).bind fun t220 => (impl_MissedWalks.j0 k l0 l1 a2 l3 t220))) else ((impl_within.f a2 0 400).bind fun t221 => ((impl_codeOf.f false t221).bind fun t222 => (impl_MissedWalks.j0 k l0 l1 a2 l3 t222))))) else ((impl_within.f a2 0 400).bind fun t223 => ((impl_codeOf.f false t223).bind fun t224 => (impl_MissedWalks.j0 k l0 l1 a2 l3 t224)))) = some (r1, r2) := H
    have A6 := Aside0.mk A60; clear A60; by_cases c7 : t217 = true
    · subst c7
      have H1 : ((impl_ValidRow.f l3).bind fun t218 => (if t218 = true then ((impl_within.f a2 0 400).bind fun t219 => ((impl_codeOf.f ((l3.length : Int) == (l0.length : Int)) t219).bind fun t220 => (impl_MissedWalks.j0 k l0 l1 a2 l3 t220))) else ((impl_within.f a2 0 400).bind fun t221 => ((impl_codeOf.f false t221).bind fun t222 => (impl_MissedWalks.j0 k l0 l1 a2 l3 t222))))) = some (r1, r2) := by rw [if_pos rfl] at H; exact H
      clear H; have H := H1; clear H1; replace H := Option.bind_eq_some_iff.mp H; obtain ⟨t218, A80, H⟩ := H; replace H : (if t218 = true then ((impl_within.f a2 0 400).bind fun t219 => ((impl_codeOf.f ((l3.length : Int) == (l0.length : Int)) t219).bind fun t220 => (impl_MissedWalks.j0 k l0 l1 a2 l3 t220))) else ((impl_within.f a2 0 400).bind fun t221 => ((impl_codeOf.f false t221).bind fun t222 => (impl_MissedWalks.j0 k l0 l1 a2 l3 t222)))) = some (r1, r2) := H
      have A8 := Aside0.mk A80; clear A80; by_cases c9 : t218 = true
      · subst c9
        have H1 : ((impl_within.f a2 0 400).bind fun t219 => ((impl_codeOf.f ((l3.length : Int) == (l0.length : Int)) t219).bind fun t220 => (impl_MissedWalks.j0 k l0 l1 a2 l3 t220))) = some (r1, r2) := by rw [if_pos rfl] at H; exact H
        clear H; have H := H1; clear H1; replace H := Option.bind_eq_some_iff.mp H; obtain ⟨t219, A100, H⟩ := H; replace H : ((impl_codeOf.f ((l3.length : Int) == (l0.length : Int)) t219).bind fun t220 => (impl_MissedWalks.j0 k l0 l1 a2 l3 t220)) = some (r1, r2) := H
        have A10 := Aside0.mk A100; clear A100; replace H := Option.bind_eq_some_iff.mp H; obtain ⟨t220, A110, H⟩ := H; replace H : (impl_MissedWalks.j0 k l0 l1 a2 l3 t220) = some (r1, r2) := H
        have A11 := Aside0.mk A110; clear A110; have H' := Aside0.mk H; clear H; go_wp2_with (first | ((with_reducible refine gate_callee (f := 30) rfl ?_); refine goesL_ (some 18) rfl rfl Try.func30 (by kernel_rfl) rfl #[.slice A0 l0.length c0, .slice A1 l1.length c1] rfl (by (try simp only [List.map_toArray, List.map_cons, List.map_nil]); first | done | rfl | (simp only [List.length_drop, List.length_take]; rfl)) ?_; (with_reducible refine (impl_rowOk.calls _ _ l0 _ _ l1 true _ ?side1 ?side2 ?side3 ?side4 A6.out).mono ?_); (case side1 => repeat (first | exact (Kd.C_below HR0.out HB.out) | (with_reducible refine Kd.C_alloc ?_ _) | (with_reducible refine Kd.C_drewN ?_ _) | (with_reducible refine Kd.C_drew ?_))); (case side2 => exact HC0.out); (case side3 => repeat (first | exact (Kd.C_below HR1.out HB.out) | (with_reducible refine Kd.C_alloc ?_ _) | (with_reducible refine Kd.C_drewN ?_ _) | (with_reducible refine Kd.C_drew ?_))); (case side4 => exact HC1.out); rintro e w12 ⟨rfl, hb⟩; refine ⟨_, rfl, ?_⟩; have n0_ := Aside0.mk (below_step (by repeat (first | (with_reducible first | exact HB.out | apply below_alloc | apply pw_below_drewN | apply below_drew1) | exact HB.out)) hb); clear HB; have HB := n0_; clear n0_; (try clear hb); (try clear hb2); (try clear hk); (try clear hi)) | (go_at_call 41; (with_reducible refine (impl_ValidRow.calls _ _ l3 true _ ?side1 ?side2 A8.out).mono ?_); (case side1 => repeat (first | exact (Kd.C_below HR3.out HB.out) | (with_reducible refine Kd.C_alloc ?_ _) | (with_reducible refine Kd.C_drewN ?_ _) | (with_reducible refine Kd.C_drew ?_))); (case side2 => exact HC3.out); rintro e w13 ⟨rfl, hb⟩; have n0_ := Aside0.mk (below_step (by repeat (first | (with_reducible first | exact HB.out | apply below_alloc | apply pw_below_drewN | apply below_drew1) | exact HB.out)) hb); clear HB; have HB := n0_; clear n0_; (try clear hb); (try clear hb2); (try clear hk); (try clear hi)) | ((with_reducible refine gate_callee (f := 42) rfl ?_); refine goesL_ (some 31) rfl rfl Try.func42 (by kernel_rfl) rfl #[.int .i64 a2, .int .i64 0, .int .i64 400] rfl (by (try simp only [List.map_toArray, List.map_cons, List.map_nil]); first | done | rfl | (simp only [List.length_drop, List.length_take]; rfl)) ?_; (with_reducible refine (impl_within.calls a2 0 400 t219 _ A10.out).mono ?_); rintro e w' ⟨rfl, ⟨nd, rfl⟩⟩; refine ⟨_, rfl, ?_⟩) | ((with_reducible refine gate_callee (f := 40) rfl ?_); refine goesL_ (some 32) rfl rfl Try.func40 (by kernel_rfl) rfl #[.bool ((l3.length : Int) == (l0.length : Int)), .bool t219] rfl (by (try simp only [List.map_toArray, List.map_cons, List.map_nil]); first | done | rfl | (simp only [List.length_drop, List.length_take]; rfl)) ?_; (with_reducible refine (impl_codeOf.calls ((l3.length : Int) == (l0.length : Int)) t219 t220 _ A11.out).mono ?_); rintro e w' ⟨rfl, ⟨nd, rfl⟩⟩; refine ⟨_, rfl, ?_⟩))
        go_meet
        case rel => exact ⟨_, (t220), (by first | rfl | (simp; done) | (simp [*]; done)), H', ⟨by first | omega | exact Nat.le_refl _⟩, ⟨by repeat (first | (with_reducible first | exact HB.out | apply below_alloc | apply pw_below_drewN | apply below_drew1) | exact HB.out)⟩⟩
      · replace c9 := Bool.eq_false_iff.mpr c9
        subst c9; have H1 : ((impl_within.f a2 0 400).bind fun t221 => ((impl_codeOf.f false t221).bind fun t222 => (impl_MissedWalks.j0 k l0 l1 a2 l3 t222))) = some (r1, r2) := by rw [if_neg (show ¬ (false = true) by decide)] at H; exact H
        clear H; have H := H1; clear H1; replace H := Option.bind_eq_some_iff.mp H; obtain ⟨t221, A140, H⟩ := H; replace H : ((impl_codeOf.f false t221).bind fun t222 => (impl_MissedWalks.j0 k l0 l1 a2 l3 t222)) = some (r1, r2) := H
        have A14 := Aside0.mk A140; clear A140; replace H := Option.bind_eq_some_iff.mp H; obtain ⟨t222, A150, H⟩ := H; replace H : (impl_MissedWalks.j0 k l0 l1 a2 l3 t222) = some (r1, r2) := H
        have A15 := Aside0.mk A150; clear A150; have H' := Aside0.mk H; clear H; go_wp2_with (first | ((with_reducible refine gate_callee (f := 30) rfl ?_); refine goesL_ (some 18) rfl rfl Try.func30 (by kernel_rfl) rfl #[.slice A0 l0.length c0, .slice A1 l1.length c1] rfl (by (try simp only [List.map_toArray, List.map_cons, List.map_nil]); first | done | rfl | (simp only [List.length_drop, List.length_take]; rfl)) ?_; (with_reducible refine (impl_rowOk.calls _ _ l0 _ _ l1 true _ ?side1 ?side2 ?side3 ?side4 A6.out).mono ?_); (case side1 => repeat (first | exact (Kd.C_below HR0.out HB.out) | (with_reducible refine Kd.C_alloc ?_ _) | (with_reducible refine Kd.C_drewN ?_ _) | (with_reducible refine Kd.C_drew ?_))); (case side2 => exact HC0.out); (case side3 => repeat (first | exact (Kd.C_below HR1.out HB.out) | (with_reducible refine Kd.C_alloc ?_ _) | (with_reducible refine Kd.C_drewN ?_ _) | (with_reducible refine Kd.C_drew ?_))); (case side4 => exact HC1.out); rintro e w16 ⟨rfl, hb⟩; refine ⟨_, rfl, ?_⟩; have n0_ := Aside0.mk (below_step (by repeat (first | (with_reducible first | exact HB.out | apply below_alloc | apply pw_below_drewN | apply below_drew1) | exact HB.out)) hb); clear HB; have HB := n0_; clear n0_; (try clear hb); (try clear hb2); (try clear hk); (try clear hi)) | (go_at_call 41; (with_reducible refine (impl_ValidRow.calls _ _ l3 false _ ?side1 ?side2 A8.out).mono ?_); (case side1 => repeat (first | exact (Kd.C_below HR3.out HB.out) | (with_reducible refine Kd.C_alloc ?_ _) | (with_reducible refine Kd.C_drewN ?_ _) | (with_reducible refine Kd.C_drew ?_))); (case side2 => exact HC3.out); rintro e w17 ⟨rfl, hb⟩; have n0_ := Aside0.mk (below_step (by repeat (first | (with_reducible first | exact HB.out | apply below_alloc | apply pw_below_drewN | apply below_drew1) | exact HB.out)) hb); clear HB; have HB := n0_; clear n0_; (try clear hb); (try clear hb2); (try clear hk); (try clear hi)) | ((with_reducible refine gate_callee (f := 42) rfl ?_); refine goesL_ (some 31) rfl rfl Try.func42 (by kernel_rfl) rfl #[.int .i64 a2, .int .i64 0, .int .i64 400] rfl (by (try simp only [List.map_toArray, List.map_cons, List.map_nil]); first | done | rfl | (simp only [List.length_drop, List.length_take]; rfl)) ?_; (with_reducible refine (impl_within.calls a2 0 400 t221 _ A14.out).mono ?_); rintro e w' ⟨rfl, ⟨nd, rfl⟩⟩; refine ⟨_, rfl, ?_⟩) | ((with_reducible refine gate_callee (f := 40) rfl ?_); refine goesL_ (some 32) rfl rfl Try.func40 (by kernel_rfl) rfl #[.bool false, .bool t221] rfl (by (try simp only [List.map_toArray, List.map_cons, List.map_nil]); first | done | rfl | (simp only [List.length_drop, List.length_take]; rfl)) ?_; (with_reducible refine (impl_codeOf.calls false t221 t222 _ A15.out).mono ?_); rintro e w' ⟨rfl, ⟨nd, rfl⟩⟩; refine ⟨_, rfl, ?_⟩))
        go_meet
        case rel => exact ⟨_, (t222), (by first | rfl | (simp; done) | (simp [*]; done)), H', ⟨by first | omega | exact Nat.le_refl _⟩, ⟨by repeat (first | (with_reducible first | exact HB.out | apply below_alloc | apply pw_below_drewN | apply below_drew1) | exact HB.out)⟩⟩
    · replace c7 := Bool.eq_false_iff.mpr c7
      subst c7; have H1 : ((impl_within.f a2 0 400).bind fun t223 => ((impl_codeOf.f false t223).bind fun t224 => (impl_MissedWalks.j0 k l0 l1 a2 l3 t224))) = some (r1, r2) := by rw [if_neg (show ¬ (false = true) by decide)] at H; exact H
      clear H; have H := H1; clear H1; replace H := Option.bind_eq_some_iff.mp H; obtain ⟨t223, A180, H⟩ := H; replace H : ((impl_codeOf.f false t223).bind fun t224 => (impl_MissedWalks.j0 k l0 l1 a2 l3 t224)) = some (r1, r2) := H
      have A18 := Aside0.mk A180; clear A180; replace H := Option.bind_eq_some_iff.mp H; obtain ⟨t224, A190, H⟩ := H; replace H : (impl_MissedWalks.j0 k l0 l1 a2 l3 t224) = some (r1, r2) := H
      have A19 := Aside0.mk A190; clear A190; have H' := Aside0.mk H; clear H; go_wp2_with (first | ((with_reducible refine gate_callee (f := 30) rfl ?_); refine goesL_ (some 18) rfl rfl Try.func30 (by kernel_rfl) rfl #[.slice A0 l0.length c0, .slice A1 l1.length c1] rfl (by (try simp only [List.map_toArray, List.map_cons, List.map_nil]); first | done | rfl | (simp only [List.length_drop, List.length_take]; rfl)) ?_; (with_reducible refine (impl_rowOk.calls _ _ l0 _ _ l1 false _ ?side1 ?side2 ?side3 ?side4 A6.out).mono ?_); (case side1 => repeat (first | exact (Kd.C_below HR0.out HB.out) | (with_reducible refine Kd.C_alloc ?_ _) | (with_reducible refine Kd.C_drewN ?_ _) | (with_reducible refine Kd.C_drew ?_))); (case side2 => exact HC0.out); (case side3 => repeat (first | exact (Kd.C_below HR1.out HB.out) | (with_reducible refine Kd.C_alloc ?_ _) | (with_reducible refine Kd.C_drewN ?_ _) | (with_reducible refine Kd.C_drew ?_))); (case side4 => exact HC1.out); rintro e w20 ⟨rfl, hb⟩; refine ⟨_, rfl, ?_⟩; have n0_ := Aside0.mk (below_step (by repeat (first | (with_reducible first | exact HB.out | apply below_alloc | apply pw_below_drewN | apply below_drew1) | exact HB.out)) hb); clear HB; have HB := n0_; clear n0_; (try clear hb); (try clear hb2); (try clear hk); (try clear hi)) | ((with_reducible refine gate_callee (f := 42) rfl ?_); refine goesL_ (some 31) rfl rfl Try.func42 (by kernel_rfl) rfl #[.int .i64 a2, .int .i64 0, .int .i64 400] rfl (by (try simp only [List.map_toArray, List.map_cons, List.map_nil]); first | done | rfl | (simp only [List.length_drop, List.length_take]; rfl)) ?_; (with_reducible refine (impl_within.calls a2 0 400 t223 _ A18.out).mono ?_); rintro e w' ⟨rfl, ⟨nd, rfl⟩⟩; refine ⟨_, rfl, ?_⟩) | ((with_reducible refine gate_callee (f := 40) rfl ?_); refine goesL_ (some 32) rfl rfl Try.func40 (by kernel_rfl) rfl #[.bool false, .bool t223] rfl (by (try simp only [List.map_toArray, List.map_cons, List.map_nil]); first | done | rfl | (simp only [List.length_drop, List.length_take]; rfl)) ?_; (with_reducible refine (impl_codeOf.calls false t223 t224 _ A19.out).mono ?_); rintro e w' ⟨rfl, ⟨nd, rfl⟩⟩; refine ⟨_, rfl, ?_⟩))
      go_meet
      case rel => exact ⟨_, (t224), (by first | rfl | (simp; done) | (simp [*]; done)), H', ⟨by first | omega | exact Nat.le_refl _⟩, ⟨by repeat (first | (with_reducible first | exact HB.out | apply below_alloc | apply pw_below_drewN | apply below_drew1) | exact HB.out)⟩⟩
  case rest =>
    clear HC5; try clear c1
    try clear p2
    try clear c3
    try clear c4
    try clear c7
    try clear c9
    try clear c18
    obtain ⟨kq, x10_4, rfl, HA, HJ4, HB⟩ := hcut
    cases kq with
    | zero => exact absurd HA.out (by simp [impl_MissedWalks.j0])
    | succ kj4 =>
      have H := HA.out; clear HA; simp only [impl_MissedWalks.j0] at H
      by_cases c21 : x10_4 = 0
      · rw [if_pos c21] at H
        have c21b0 : (x10_4 == 0) = true := beq_iff_eq.mpr c21; have c21b1 : (x10_4 != 0) = false := bne_eq_false_iff_eq.mpr c21; clear c21; obtain ⟨y225, hy225⟩ : ∃ y_ : List (S64), y_ = (([] : List (S64))) := ⟨_, rfl⟩
        replace H : (impl_MissedWalks.l0 kj4 l0 l1 a2 l3 y225 l1 (l1.length : Int) 0) = some (r1, r2) := by first | (rw [hy225]; with_reducible exact H) | (have H2_ := (Option.bind_some _ _).symm.trans H; rw [hy225]; with_reducible exact H2_) | (have H2_ := (Option.bind_some _ _).symm.trans H; with_reducible exact H2_) | with_reducible exact H | (rw [hy225]; exact H) | exact H
        have Ny225 := Aside0.mk hy225; clear hy225; have H' := Aside0.mk H; clear H; go_wp2_with (first | ((with_reducible refine gate_dst (N := 36) rfl ?_); (try (refine gate_guard (by rfl) ?_; dsimp only)); refine Kd.R_lit k64 _ 64 ?hg (N := 36) ?hd (xs := ([] : List (S64))) (inner := []) (ok := fun _ => True) (okp := fun _ => True) ?hr ?hp (fun _ hk => hk) trivial (Below.refl _ _) (Nat.le_refl _) (by simp) ?_; (case hd => rfl); (case hg => rfl); (case hr => first | (go_simp; done) | (go_simp; rfl)); (case hp => exact (Reps.none _ _)); intro v226 w22 ho23 hb hg_ hnew_; clear hg_ hnew_; (first | rw [← Ny225.out] at ho23 | (simp only [Int.reduceToNat] at ho23; rw [← Ny225.out] at ho23)); have n0_ := Aside0.mk (Kd.R_lower ho23 (below_size (by repeat (first | (with_reducible first | exact HB.out | apply below_alloc | apply pw_below_drewN | apply below_drew1) | exact HB.out)))); have n1_ := Aside0.mk (below_step (by repeat (first | (with_reducible first | exact HB.out | apply below_alloc | apply pw_below_drewN | apply below_drew1) | exact HB.out)) hb); clear HB; have HO227 := n0_; have HB := n1_; clear n0_ n1_; clear hb ho23))
        go_loopg [11, 39] kj4 (fun kq v11 v39 w' => ∃ (x11_2 : List (S64)) (x39_2 : Int), v39 = .int .i64 x39_2 ∧ Aside0 (impl_MissedWalks.l0 kq l0 l1 a2 l3 x11_2 l1 (l1.length : Int) x39_2 = some (r1, r2)) ∧ Aside0 (kq ≤ kj4) ∧ Aside0 (Kd.R k64 64 w' w.heap.size (fun _ => True) v11 x11_2) ∧ Aside0 (Below w.heap.size w w'))
        case atStart => exact ⟨(y225), (0), (by first | rfl | (simp; done) | (simp [*]; done)), H', ⟨Nat.le_refl _⟩, ⟨by (with_reducible repeat (first | apply Kd.R_alloc | apply Kd.R_drewN | apply Kd.R_drew)); exact HO227.out⟩, ⟨by repeat (first | (with_reducible first | exact HB.out | apply below_alloc | apply pw_below_drewN | apply below_drew1) | exact HB.out)⟩⟩
        case round =>
          clear H'; try clear c1
          try clear c2
          try clear p2
          try clear c3
          try clear c4
          try clear c7
          try clear c9
          try clear c18
          try clear c21
          try clear c21b0
          try clear c21b1
          try clear p2
          obtain ⟨x11_2, x39_2, rfl, HA, HK2, HO_11, HB⟩ := hrel
          cases gk with
          | zero => exact absurd HA.out (by simp [impl_MissedWalks.l0])
          | succ k2 =>
            have H := HA.out; clear HA; simp only [impl_MissedWalks.l0] at H
            by_cases c24 : x39_2 < (l1.length : Int)
            · rw [if_pos c24] at H
              have c24b0 : decide (x39_2 < (l1.length : Int)) = true := decide_eq_true c24
              clear c24; by_cases c25 : 0 ≤ x39_2
              · rw [if_pos c25] at H
                have c25b0 : decide (0 ≤ x39_2) = true := decide_eq_true c25
                clear c25; by_cases c26 : x39_2 < (l1.length : Int)
                · rw [if_pos c26] at H
                  have c26b0 : decide (x39_2 < (l1.length : Int)) = true := decide_eq_true c26
                  clear c26; replace H := Option.bind_eq_some_iff.mp H; obtain ⟨t230, A270, H⟩ := H; replace H : ((mwalk.f k2 t230 (([(⟨(rd_T53 l1 x39_2).f0, (rd_T53 l1 x39_2).f1, (rd_T53 l1 x39_2).f2, (rd_T53 l1 x39_2).f3, (rd_T53 l1 x39_2).f4, (rd_T53 l1 x39_2).f5⟩ : S53)] : List (S53)))).bind fun t236 => (impl_MissedWalks.l1 k2 l0 l1 a2 l3 x11_2 x39_2 t236 0 l1 (l1.length : Int) x39_2 ((rd_T53 l1 x39_2).f0) ((rd_T53 l1 x39_2).f1) ((rd_T53 l1 x39_2).f2) ((rd_T53 l1 x39_2).f3) ((rd_T53 l1 x39_2).f4) ((rd_T53 l1 x39_2).f5))) = some (r1, r2) := H
                  have A27 := Aside0.mk A270; clear A270; obtain ⟨y233, hy233⟩ : ∃ y_ : List (S53), y_ = (([(⟨(rd_T53 l1 x39_2).f0, (rd_T53 l1 x39_2).f1, (rd_T53 l1 x39_2).f2, (rd_T53 l1 x39_2).f3, (rd_T53 l1 x39_2).f4, (rd_T53 l1 x39_2).f5⟩ : S53)] : List (S53))) := ⟨_, rfl⟩
                  replace H : ((mwalk.f k2 t230 y233).bind fun t236 => (impl_MissedWalks.l1 k2 l0 l1 a2 l3 x11_2 x39_2 t236 0 l1 (l1.length : Int) x39_2 ((rd_T53 l1 x39_2).f0) ((rd_T53 l1 x39_2).f1) ((rd_T53 l1 x39_2).f2) ((rd_T53 l1 x39_2).f3) ((rd_T53 l1 x39_2).f4) ((rd_T53 l1 x39_2).f5))) = some (r1, r2) := by first | (rw [hy233]; with_reducible exact H) | (have H2_ := (Option.bind_some _ _).symm.trans H; rw [hy233]; with_reducible exact H2_) | (have H2_ := (Option.bind_some _ _).symm.trans H; with_reducible exact H2_) | with_reducible exact H | (rw [hy233]; exact H) | exact H
                  have Ny233 := Aside0.mk hy233; clear hy233; replace H := Option.bind_eq_some_iff.mp H; obtain ⟨t236, A280, H⟩ := H; replace H : (impl_MissedWalks.l1 k2 l0 l1 a2 l3 x11_2 x39_2 t236 0 l1 (l1.length : Int) x39_2 ((rd_T53 l1 x39_2).f0) ((rd_T53 l1 x39_2).f1) ((rd_T53 l1 x39_2).f2) ((rd_T53 l1 x39_2).f3) ((rd_T53 l1 x39_2).f4) ((rd_T53 l1 x39_2).f5)) = some (r1, r2) := H
                  have A28 := Aside0.mk A280; clear A280; have H' := Aside0.mk H; clear H; have p228 : 0 ≤ (x39_2 : Int) := of_decide_eq_true (by first | (with_reducible assumption) | assumption)
                  have q228 : x39_2 < (l1.length : Int) := of_decide_eq_true (by first | (with_reducible assumption) | assumption)
                  obtain ⟨ad228, e228, hx228_0, hx228_1, hx228_2, hx228_3, hx228_4, hx228_5⟩ := at_T53 HR1.out x39_2 p228 q228
                  cases e228
                  (try replace hx228_0 := (HB.out.cell (World.block_lt_of_cell? w _ hx228_0)).trans hx228_0)
                  (try replace hx228_1 := (HB.out.cell (World.block_lt_of_cell? w _ hx228_1)).trans hx228_1)
                  (try replace hx228_2 := (HB.out.cell (World.block_lt_of_cell? w _ hx228_2)).trans hx228_2)
                  (try replace hx228_3 := (HB.out.cell (World.block_lt_of_cell? w _ hx228_3)).trans hx228_3)
                  (try replace hx228_4 := (HB.out.cell (World.block_lt_of_cell? w _ hx228_4)).trans hx228_4)
                  (try replace hx228_5 := (HB.out.cell (World.block_lt_of_cell? w _ hx228_5)).trans hx228_5)
                  replace p228 := eq_true p228
                  replace q228 := eq_true q228
                  try go_wp2_with (first | ((with_reducible refine gate_dst (N := 13) rfl ?_); (try (refine gate_guard (by rfl) ?_; dsimp only)); refine box_event ?hg (N := 13) ?hd (cs := #[.int .i16 0, .int .i16 0, .int .i16 0, .int .i16 0, .int .i16 0, .int .i8 0]) (t := 53) ?hr ?_; (case hd => rfl); (case hg => rfl); (case hr => first | (go_simp; done) | (go_simp; rfl)); intro gb229 hg w29 hbox hb; have n0_ := Aside0.mk (Kd.R_below (by (with_reducible repeat (first | apply Kd.R_alloc | apply Kd.R_drewN | apply Kd.R_drew)); exact HO_11.out) hb); have n1_ := Aside0.mk (below_step (by repeat (first | (with_reducible first | exact HB.out | apply below_alloc | apply pw_below_drewN | apply below_drew1) | exact HB.out)) hb); have n2_ := Aside0.mk (hbox); have n3_ := Aside0.mk ((by rw [hg]; exact (below_size (by repeat (first | (with_reducible first | exact HB.out | apply below_alloc | apply pw_below_drewN | apply below_drew1) | exact HB.out))) : w.heap.size ≤ gb229)); have n4_ := Aside0.mk ((by rw [hg]; exact (below_size (by repeat (first | (with_reducible first | exact HB.out | apply below_alloc | apply pw_below_drewN | apply below_drew1) | exact HB.out))) : w.heap.size ≤ gb229)); clear HO_11; clear HB; have HO_11 := n0_; have HB := n1_; have BK229 := n2_; have GW229 := n3_; have GE229 := n4_; clear n0_ n1_ n2_ n3_ n4_; clear hb hbox hg; have hcz30_0 : w29.cell? ⟨gb229, 0, none⟩ = some (.int .i16 0) := (blk_cell BK229.out 0).trans rfl; have hcz30_1 : w29.cell? ⟨gb229, 1, none⟩ = some (.int .i16 0) := (blk_cell BK229.out 1).trans rfl; have hcz30_2 : w29.cell? ⟨gb229, 2, none⟩ = some (.int .i16 0) := (blk_cell BK229.out 2).trans rfl; have hcz30_3 : w29.cell? ⟨gb229, 3, none⟩ = some (.int .i16 0) := (blk_cell BK229.out 3).trans rfl; have hcz30_4 : w29.cell? ⟨gb229, 4, none⟩ = some (.int .i16 0) := (blk_cell BK229.out 4).trans rfl; have hcz30_5 : w29.cell? ⟨gb229, 5, none⟩ = some (.int .i8 0) := (blk_cell BK229.out 5).trans rfl; have hfz30_0 := blk_frozen BK229.out 0; have hfz30_1 := blk_frozen BK229.out 1; have hfz30_2 := blk_frozen BK229.out 2; have hfz30_3 := blk_frozen BK229.out 3; have hfz30_4 := blk_frozen BK229.out 4; have hfz30_5 := blk_frozen BK229.out 5))
                  have n0_ : Aside0 (Kd.R k64 64 ((((((w29.setCell ⟨gb229, 0, none⟩ (.int .i16 ((rd_T53 l1 x39_2).f0))).setCell ⟨gb229, 1, none⟩ (.int .i16 ((rd_T53 l1 x39_2).f1))).setCell ⟨gb229, 2, none⟩ (.int .i16 ((rd_T53 l1 x39_2).f2))).setCell ⟨gb229, 3, none⟩ (.int .i16 ((rd_T53 l1 x39_2).f3))).setCell ⟨gb229, 4, none⟩ (.int .i16 ((rd_T53 l1 x39_2).f4))).setCell ⟨gb229, 5, none⟩ (.int .i8 ((rd_T53 l1 x39_2).f5))) w.heap.size (fun _ => True) u11 x11_2) := ⟨by (with_reducible repeat (first | apply Kd.R_alloc | apply Kd.R_drewN | apply Kd.R_drew)); exact Kd.R_mono (Kd.R_far (p := ⟨gb229, 5, none⟩) (Kd.R_far (p := ⟨gb229, 4, none⟩) (Kd.R_far (p := ⟨gb229, 3, none⟩) (Kd.R_far (p := ⟨gb229, 2, none⟩) (Kd.R_far (p := ⟨gb229, 1, none⟩) (Kd.R_far (p := ⟨gb229, 0, none⟩) (Kd.R_types HO_11.out BK229.out (by decide)) (fun _ hk => hk.2) (.int .i16 ((rd_T53 l1 x39_2).f0))) (fun _ hk => hk.2) (.int .i16 ((rd_T53 l1 x39_2).f1))) (fun _ hk => hk.2) (.int .i16 ((rd_T53 l1 x39_2).f2))) (fun _ hk => hk.2) (.int .i16 ((rd_T53 l1 x39_2).f3))) (fun _ hk => hk.2) (.int .i16 ((rd_T53 l1 x39_2).f4))) (fun _ hk => hk.2) (.int .i8 ((rd_T53 l1 x39_2).f5))) (fun _ hk => trivial)⟩
                  have n1_ : Aside0 (((((((w29.setCell ⟨gb229, 0, none⟩ (.int .i16 ((rd_T53 l1 x39_2).f0))).setCell ⟨gb229, 1, none⟩ (.int .i16 ((rd_T53 l1 x39_2).f1))).setCell ⟨gb229, 2, none⟩ (.int .i16 ((rd_T53 l1 x39_2).f2))).setCell ⟨gb229, 3, none⟩ (.int .i16 ((rd_T53 l1 x39_2).f3))).setCell ⟨gb229, 4, none⟩ (.int .i16 ((rd_T53 l1 x39_2).f4))).setCell ⟨gb229, 5, none⟩ (.int .i8 ((rd_T53 l1 x39_2).f5))).heap[gb229]? = some (.cells #[.int .i16 ((rd_T53 l1 x39_2).f0), .int .i16 ((rd_T53 l1 x39_2).f1), .int .i16 ((rd_T53 l1 x39_2).f2), .int .i16 ((rd_T53 l1 x39_2).f3), .int .i16 ((rd_T53 l1 x39_2).f4), .int .i8 ((rd_T53 l1 x39_2).f5)] 53 (0, 0))) := ⟨by (with_reducible repeat (first | refine blk_drewN ?_ _ | refine blk_drew ?_ | refine blk_alloc ?_ _)); refine blk_put (cs := #[.int .i16 ((rd_T53 l1 x39_2).f0), .int .i16 ((rd_T53 l1 x39_2).f1), .int .i16 ((rd_T53 l1 x39_2).f2), .int .i16 ((rd_T53 l1 x39_2).f3), .int .i16 ((rd_T53 l1 x39_2).f4), .int .i8 0]) ?_ 5 _ rfl; (with_reducible repeat (first | refine blk_drewN ?_ _ | refine blk_drew ?_ | refine blk_alloc ?_ _)); refine blk_put (cs := #[.int .i16 ((rd_T53 l1 x39_2).f0), .int .i16 ((rd_T53 l1 x39_2).f1), .int .i16 ((rd_T53 l1 x39_2).f2), .int .i16 ((rd_T53 l1 x39_2).f3), .int .i16 0, .int .i8 0]) ?_ 4 _ rfl; (with_reducible repeat (first | refine blk_drewN ?_ _ | refine blk_drew ?_ | refine blk_alloc ?_ _)); refine blk_put (cs := #[.int .i16 ((rd_T53 l1 x39_2).f0), .int .i16 ((rd_T53 l1 x39_2).f1), .int .i16 ((rd_T53 l1 x39_2).f2), .int .i16 0, .int .i16 0, .int .i8 0]) ?_ 3 _ rfl; (with_reducible repeat (first | refine blk_drewN ?_ _ | refine blk_drew ?_ | refine blk_alloc ?_ _)); refine blk_put (cs := #[.int .i16 ((rd_T53 l1 x39_2).f0), .int .i16 ((rd_T53 l1 x39_2).f1), .int .i16 0, .int .i16 0, .int .i16 0, .int .i8 0]) ?_ 2 _ rfl; (with_reducible repeat (first | refine blk_drewN ?_ _ | refine blk_drew ?_ | refine blk_alloc ?_ _)); refine blk_put (cs := #[.int .i16 ((rd_T53 l1 x39_2).f0), .int .i16 0, .int .i16 0, .int .i16 0, .int .i16 0, .int .i8 0]) ?_ 1 _ rfl; (with_reducible repeat (first | refine blk_drewN ?_ _ | refine blk_drew ?_ | refine blk_alloc ?_ _)); refine blk_put (cs := #[.int .i16 0, .int .i16 0, .int .i16 0, .int .i16 0, .int .i16 0, .int .i8 0]) ?_ 0 _ rfl; (with_reducible repeat (first | refine blk_drewN ?_ _ | refine blk_drew ?_ | refine blk_alloc ?_ _)); exact BK229.out⟩
                  have n2_ : Aside0 (Below w.heap.size w ((((((w29.setCell ⟨gb229, 0, none⟩ (.int .i16 ((rd_T53 l1 x39_2).f0))).setCell ⟨gb229, 1, none⟩ (.int .i16 ((rd_T53 l1 x39_2).f1))).setCell ⟨gb229, 2, none⟩ (.int .i16 ((rd_T53 l1 x39_2).f2))).setCell ⟨gb229, 3, none⟩ (.int .i16 ((rd_T53 l1 x39_2).f3))).setCell ⟨gb229, 4, none⟩ (.int .i16 ((rd_T53 l1 x39_2).f4))).setCell ⟨gb229, 5, none⟩ (.int .i8 ((rd_T53 l1 x39_2).f5)))) := ⟨by repeat (first | (with_reducible first | exact HB.out | apply below_alloc | apply pw_below_drewN | apply below_drew1 | refine below_set ?_ GE229.out) | exact HB.out)⟩
                  (try clear HO_11)
                  (try clear BK229)
                  (try clear HB)
                  generalize ((((((w29.setCell ⟨gb229, 0, none⟩ (.int .i16 ((rd_T53 l1 x39_2).f0))).setCell ⟨gb229, 1, none⟩ (.int .i16 ((rd_T53 l1 x39_2).f1))).setCell ⟨gb229, 2, none⟩ (.int .i16 ((rd_T53 l1 x39_2).f2))).setCell ⟨gb229, 3, none⟩ (.int .i16 ((rd_T53 l1 x39_2).f3))).setCell ⟨gb229, 4, none⟩ (.int .i16 ((rd_T53 l1 x39_2).f4))).setCell ⟨gb229, 5, none⟩ (.int .i8 ((rd_T53 l1 x39_2).f5))) = w31 at n0_ n1_ n2_ ⊢
                  have HO_11 := n0_; have BK229 := n1_; have HB := n2_; clear n0_ n1_ n2_; have n0_ := Aside0.mk (Kd.R_drew HO_11.out)
                  have n1_ := Aside0.mk (blk_drew BK229.out)
                  have n2_ := Aside0.mk (below_drew1 HB.out)
                  clear HO_11; clear BK229; clear HB; have HO_11 := n0_; have BK229 := n1_; have HB := n2_; clear n0_ n1_ n2_; refine start_ (n := 8) (S := fun w' => w'.cell? ⟨gb229, 0, none⟩ = some (.int .i16 ((rd_T53 l1 x39_2).f0)) ∧ w'.cell? ⟨gb229, 1, none⟩ = some (.int .i16 ((rd_T53 l1 x39_2).f1)) ∧ w'.cell? ⟨gb229, 2, none⟩ = some (.int .i16 ((rd_T53 l1 x39_2).f2)) ∧ w'.cell? ⟨gb229, 3, none⟩ = some (.int .i16 ((rd_T53 l1 x39_2).f3)) ∧ w'.cell? ⟨gb229, 4, none⟩ = some (.int .i16 ((rd_T53 l1 x39_2).f4)) ∧ w'.cell? ⟨gb229, 5, none⟩ = some (.int .i8 ((rd_T53 l1 x39_2).f5))) (ds := []) #[false, false, false, false, false, false, false, false] (by kernel_rfl) rfl rfl ⟨(blk_cell BK229.out 0).trans rfl, (blk_cell BK229.out 1).trans rfl, (blk_cell BK229.out 2).trans rfl, (blk_cell BK229.out 3).trans rfl, (blk_cell BK229.out 4).trans rfl, (blk_cell BK229.out 5).trans rfl⟩ (fun hHeld => ?_); refine with_tabW impl_MissedWalks.tab8 impl_MissedWalks.bits8 (fun HT_ HW_ => ?_)
                  generalize w31.drew = w32 at HO_11 BK229 HB hHeld ⊢
                  refine pure_ (i := 0) (N := some 44) (v := ?_) (a' := ?_) #[true, false, false, false, false, false, false, false] rfl rfl (any_of HT_.out (by kernel_rfl)) (fun _ _ _ h => h) (Or.inl ⟨by rfl, ?_⟩) ?_ ?_
                  rotate_left
                  · intro w'
                    go_simp
                    with_reducible rfl
                  rotate_left
                  · simp only [Act.put, List.setIfInBounds_toArray, List.set_cons_zero, List.set_cons_succ, i64_w, i32_w]
                    rfl
                  refine pure_ (i := 1) (N := some 45) (v := ?_) (a' := ?_) #[true, true, false, false, false, false, false, false] rfl rfl (any_of HT_.out (by kernel_rfl)) (fun _ _ _ h => h) (Or.inl ⟨by rfl, ?_⟩) ?_ ?_
                  rotate_left
                  · intro w'
                    go_simp
                    with_reducible rfl
                  rotate_left
                  · simp only [Act.put, List.setIfInBounds_toArray, List.set_cons_zero, List.set_cons_succ, i64_w, i32_w]
                    rfl
                  refine pure_ (i := 2) (N := some 46) (v := ?_) (a' := ?_) #[true, true, true, false, false, false, false, false] rfl rfl (any_of HT_.out (by kernel_rfl)) (fun _ _ _ h => h) (Or.inl ⟨by rfl, ?_⟩) ?_ ?_
                  rotate_left
                  · intro w'
                    go_simp
                    with_reducible rfl
                  rotate_left
                  · simp only [Act.put, List.setIfInBounds_toArray, List.set_cons_zero, List.set_cons_succ, i64_w, i32_w]
                    rfl
                  refine take_ (i := 4) (N := some 48) (v := ?_) (a' := ?_) #[true, true, true, false, true, false, false, false] rfl rfl (take_ofW HT_.out HW_.out (by kernel_rfl)) (fun _ _ _ h => h) (Or.inl ⟨by rfl, ?_⟩) hHeld ?_ ?_
                  rotate_left
                  · rintro w' ⟨s0, s1, s2, s3, s4, s5⟩
                    go_simp
                    with_reducible rfl
                  rotate_left
                  · simp only [Act.put, List.setIfInBounds_toArray, List.set_cons_zero, List.set_cons_succ, i64_w, i32_w]
                    rfl
                  refine join_ (σ := Value × Value) 2 #[true, true, true, true, true, true, false, false] (fun s_ => [(47, s_.1), (49, s_.2)]) (fun s_ w' => (w'.cell? ⟨gb229, 0, none⟩ = some (.int .i16 ((rd_T53 l1 x39_2).f0)) ∧ w'.cell? ⟨gb229, 1, none⟩ = some (.int .i16 ((rd_T53 l1 x39_2).f1)) ∧ w'.cell? ⟨gb229, 2, none⟩ = some (.int .i16 ((rd_T53 l1 x39_2).f2)) ∧ w'.cell? ⟨gb229, 3, none⟩ = some (.int .i16 ((rd_T53 l1 x39_2).f3)) ∧ w'.cell? ⟨gb229, 4, none⟩ = some (.int .i16 ((rd_T53 l1 x39_2).f4)) ∧ w'.cell? ⟨gb229, 5, none⟩ = some (.int .i8 ((rd_T53 l1 x39_2).f5))) ∧ (Kd.R (Kd.int .u8) 5 w' w.heap.size (fun _ => True) s_.1 t230) ∧ (Kd.R k53 53 w' w.heap.size (fun k_ => k_ ≠ gb229) s_.2 y233) ∧ (Kd.R k64 64 w' w.heap.size (fun _ => True) u11 x11_2) ∧ (w'.heap[gb229]? = some (.cells #[.int .i16 ((rd_T53 l1 x39_2).f0), .int .i16 ((rd_T53 l1 x39_2).f1), .int .i16 ((rd_T53 l1 x39_2).f2), .int .i16 ((rd_T53 l1 x39_2).f3), .int .i16 ((rd_T53 l1 x39_2).f4), .int .i8 ((rd_T53 l1 x39_2).f5)] 53 (0, 0))) ∧ (Below w.heap.size w w')) ?_ ?_
                  rotate_left
                  · intro hCont
                    refine two_ (i := 3) (j := 5) (Ni := some 47) (Nj := some 49) #[true, true, true, true, true, false, false, false] #[true, true, true, false, true, true, false, false] rfl rfl rfl rfl (two_of HT_.out (by kernel_rfl)) (by decide) (by decide) (fun K hK => ?_) (fun K hK => ?_)
                    · skip
                      refine goes_ Try.func32 (by kernel_rfl) rfl #[.slice A0 l0.length c0, .slice (some ad228) l1.length c1, .int .i64 a2] (by rfl) rfl rfl (by (try simp only [List.map_toArray, List.map_cons, List.map_nil]); first | done | rfl | (simp only [List.length_drop, List.length_take]; rfl)) ?_
                      with_reducible refine (impl_rowOn.calls k2 _ _ l0 _ _ l1 a2 t230 _ ?side1 ?side2 ?side3 ?side4 A27.out).mono ?_
                      (case side1 => repeat (first | exact (Kd.C_below HR0.out HB.out) | (with_reducible refine Kd.C_alloc ?_ _) | (with_reducible refine Kd.C_drewN ?_ _) | (with_reducible refine Kd.C_drew ?_)))
                      (case side2 => exact HC0.out)
                      (case side3 => repeat (first | exact (Kd.C_below HR1.out HB.out) | (with_reducible refine Kd.C_alloc ?_ _) | (with_reducible refine Kd.C_drewN ?_ _) | (with_reducible refine Kd.C_drew ?_)))
                      (case side4 => exact HC1.out)
                      rintro e w33 ⟨v231, rfl, ho0, hb⟩
                      refine ⟨_, rfl, ?_⟩
                      have n0_ := Aside0.mk (Kd.R_below (by (with_reducible repeat (first | apply Kd.R_alloc | apply Kd.R_drewN | apply Kd.R_drew)); exact HO_11.out) hb)
                      have n1_ := Aside0.mk (Kd.R_lower ho0 (below_size (by repeat (first | (with_reducible first | exact HB.out | apply below_alloc | apply pw_below_drewN | apply below_drew1 | refine below_set ?_ GE229.out) | exact HB.out))))
                      have n2_ := Aside0.mk (blk_below (g := gb229) (o := .cells #[.int .i16 ((rd_T53 l1 x39_2).f0), .int .i16 ((rd_T53 l1 x39_2).f1), .int .i16 ((rd_T53 l1 x39_2).f2), .int .i16 ((rd_T53 l1 x39_2).f3), .int .i16 ((rd_T53 l1 x39_2).f4), .int .i8 ((rd_T53 l1 x39_2).f5)] 53 (0, 0)) (by (with_reducible repeat (first | refine blk_drewN ?_ _ | refine blk_drew ?_ | refine blk_alloc ?_ _)); exact BK229.out) hb)
                      have n3_ := Aside0.mk (below_step (by repeat (first | (with_reducible first | exact HB.out | apply below_alloc | apply pw_below_drewN | apply below_drew1 | refine below_set ?_ GE229.out) | exact HB.out)) hb)
                      clear HO_11; clear BK229; clear HB; have HO_11 := n0_; have HO232 := n1_; have BK229 := n2_; have HB := n3_; clear n0_ n1_ n2_ n3_; (try clear hb)
                      (try clear hb2)
                      (try clear hk)
                      (try clear hi)
                      (try clear ho0)
                      refine hK.out _ _ ⟨(blk_cell BK229.out 0).trans rfl, (blk_cell BK229.out 1).trans rfl, (blk_cell BK229.out 2).trans rfl, (blk_cell BK229.out 3).trans rfl, (blk_cell BK229.out 4).trans rfl, (blk_cell BK229.out 5).trans rfl⟩ (fun hHeld => ?_)
                      clear hK K; refine norm_ (a' := ?_) ?_ ?_; rotate_left
                      · show Act.put _ (some 47) _ = _
                        simp only [Act.put, List.setIfInBounds_toArray, List.set_cons_zero, List.set_cons_succ, i64_w, i32_w]
                        rfl
                      refine one_ (i := 5) (N := some 49) #[true, true, true, true, true, true, false, false] rfl rfl (one_of HT_.out (by kernel_rfl)) (by decide) (fun K hK => ?_)
                      refine Kd.R_lit_step k53 _ 53 ?hg (N := 49) ?hd (xs := ([(⟨(rd_T53 l1 x39_2).f0, (rd_T53 l1 x39_2).f1, (rd_T53 l1 x39_2).f2, (rd_T53 l1 x39_2).f3, (rd_T53 l1 x39_2).f4, (rd_T53 l1 x39_2).f5⟩ : S53)] : List (S53))) (inner := [.int .i16 ((rd_T53 l1 x39_2).f0), .int .i16 ((rd_T53 l1 x39_2).f1), .int .i16 ((rd_T53 l1 x39_2).f2), .int .i16 ((rd_T53 l1 x39_2).f3), .int .i16 ((rd_T53 l1 x39_2).f4), .int .i8 ((rd_T53 l1 x39_2).f5)]) (ok := fun _ => True) (okp := fun _ => True) ?hr ?hp (fun _ hk => hk) trivial (Below.refl _ _) (Nat.le_refl _) (by simp) ?_; (case hd => rfl); (case hg => rfl); (case hr => first | (go_simp; done) | (go_simp; rfl)); (case hp => exact (Reps.c6 (show Kd.M k53 _ _ _ (⟨(rd_T53 l1 x39_2).f0, (rd_T53 l1 x39_2).f1, (rd_T53 l1 x39_2).f2, (rd_T53 l1 x39_2).f3, (rd_T53 l1 x39_2).f4, (rd_T53 l1 x39_2).f5⟩ : S53) [.int .i16 ((rd_T53 l1 x39_2).f0), .int .i16 ((rd_T53 l1 x39_2).f1), .int .i16 ((rd_T53 l1 x39_2).f2), .int .i16 ((rd_T53 l1 x39_2).f3), .int .i16 ((rd_T53 l1 x39_2).f4), .int .i8 ((rd_T53 l1 x39_2).f5)] from (k53_mkM _ _ _ (⟨(rd_T53 l1 x39_2).f0, (rd_T53 l1 x39_2).f1, (rd_T53 l1 x39_2).f2, (rd_T53 l1 x39_2).f3, (rd_T53 l1 x39_2).f4, (rd_T53 l1 x39_2).f5⟩ : S53) )) (Reps.none _ _)))
                      intro v234 w34 ho35 hb hg_ hnew_
                      clear hg_ hnew_; (first | rw [← Ny233.out] at ho35 | (simp only [Int.reduceToNat] at ho35; rw [← Ny233.out] at ho35))
                      have n0_ := Aside0.mk (Kd.R_below (by (with_reducible repeat (first | apply Kd.R_alloc | apply Kd.R_drewN | apply Kd.R_drew)); exact HO_11.out) hb)
                      have n1_ := Aside0.mk (Kd.R_below (by (with_reducible repeat (first | apply Kd.R_alloc | apply Kd.R_drewN | apply Kd.R_drew)); exact HO232.out) hb)
                      have n2_ := Aside0.mk (Kd.R_lower (Kd.R_newB ho35 (g := gb229) (o := .cells #[.int .i16 ((rd_T53 l1 x39_2).f0), .int .i16 ((rd_T53 l1 x39_2).f1), .int .i16 ((rd_T53 l1 x39_2).f2), .int .i16 ((rd_T53 l1 x39_2).f3), .int .i16 ((rd_T53 l1 x39_2).f4), .int .i8 ((rd_T53 l1 x39_2).f5)] 53 (0, 0)) (by (with_reducible repeat (first | refine blk_drewN ?_ _ | refine blk_drew ?_ | refine blk_alloc ?_ _)); exact BK229.out)) (below_size (by repeat (first | (with_reducible first | exact HB.out | apply below_alloc | apply pw_below_drewN | apply below_drew1 | refine below_set ?_ GE229.out) | exact HB.out))))
                      have n3_ := Aside0.mk (blk_below (g := gb229) (o := .cells #[.int .i16 ((rd_T53 l1 x39_2).f0), .int .i16 ((rd_T53 l1 x39_2).f1), .int .i16 ((rd_T53 l1 x39_2).f2), .int .i16 ((rd_T53 l1 x39_2).f3), .int .i16 ((rd_T53 l1 x39_2).f4), .int .i8 ((rd_T53 l1 x39_2).f5)] 53 (0, 0)) (by (with_reducible repeat (first | refine blk_drewN ?_ _ | refine blk_drew ?_ | refine blk_alloc ?_ _)); exact BK229.out) hb)
                      have n4_ := Aside0.mk (below_step (by repeat (first | (with_reducible first | exact HB.out | apply below_alloc | apply pw_below_drewN | apply below_drew1 | refine below_set ?_ GE229.out) | exact HB.out)) hb)
                      clear HO_11; clear HO232; clear BK229; clear HB; have HO_11 := n0_; have HO232 := n1_; have HO235 := n2_; have BK229 := n3_; have HB := n4_; clear n0_ n1_ n2_ n3_ n4_; clear hb ho35; refine hK.out _ _ ⟨(blk_cell BK229.out 0).trans rfl, (blk_cell BK229.out 1).trans rfl, (blk_cell BK229.out 2).trans rfl, (blk_cell BK229.out 3).trans rfl, (blk_cell BK229.out 4).trans rfl, (blk_cell BK229.out 5).trans rfl⟩ (fun hHeld => ?_)
                      clear hK K; refine norm_ (a' := ?_) ?_ ?_; rotate_left
                      · show Act.put _ (some 49) _ = _
                        simp only [Act.put, List.setIfInBounds_toArray, List.set_cons_zero, List.set_cons_succ, i64_w, i32_w]
                        rfl
                      exact norm_ (by simp only [putAll, Act.put, List.setIfInBounds_toArray, List.set_cons_zero, List.set_cons_succ]) (hCont (v231, v234) _ ⟨hHeld, (by (with_reducible repeat (first | apply Kd.R_alloc | apply Kd.R_drewN | apply Kd.R_drew)); exact HO232.out), (by (with_reducible repeat (first | apply Kd.R_alloc | apply Kd.R_drewN | apply Kd.R_drew)); exact Kd.R_mono HO235.out (fun _ hk => hk.2)), (by (with_reducible repeat (first | apply Kd.R_alloc | apply Kd.R_drewN | apply Kd.R_drew)); exact HO_11.out), (by (with_reducible repeat (first | refine blk_drewN ?_ _ | refine blk_drew ?_ | refine blk_alloc ?_ _)); exact BK229.out), (by repeat (first | (with_reducible first | exact HB.out | apply below_alloc | apply pw_below_drewN | apply below_drew1 | refine below_set ?_ GE229.out) | exact HB.out))⟩)
                    · skip
                      refine Kd.R_lit_step k53 _ 53 ?hg (N := 49) ?hd (xs := ([(⟨(rd_T53 l1 x39_2).f0, (rd_T53 l1 x39_2).f1, (rd_T53 l1 x39_2).f2, (rd_T53 l1 x39_2).f3, (rd_T53 l1 x39_2).f4, (rd_T53 l1 x39_2).f5⟩ : S53)] : List (S53))) (inner := [.int .i16 ((rd_T53 l1 x39_2).f0), .int .i16 ((rd_T53 l1 x39_2).f1), .int .i16 ((rd_T53 l1 x39_2).f2), .int .i16 ((rd_T53 l1 x39_2).f3), .int .i16 ((rd_T53 l1 x39_2).f4), .int .i8 ((rd_T53 l1 x39_2).f5)]) (ok := fun _ => True) (okp := fun _ => True) ?hr ?hp (fun _ hk => hk) trivial (Below.refl _ _) (Nat.le_refl _) (by simp) ?_; (case hd => rfl); (case hg => rfl); (case hr => first | (go_simp; done) | (go_simp; rfl)); (case hp => exact (Reps.c6 (show Kd.M k53 _ _ _ (⟨(rd_T53 l1 x39_2).f0, (rd_T53 l1 x39_2).f1, (rd_T53 l1 x39_2).f2, (rd_T53 l1 x39_2).f3, (rd_T53 l1 x39_2).f4, (rd_T53 l1 x39_2).f5⟩ : S53) [.int .i16 ((rd_T53 l1 x39_2).f0), .int .i16 ((rd_T53 l1 x39_2).f1), .int .i16 ((rd_T53 l1 x39_2).f2), .int .i16 ((rd_T53 l1 x39_2).f3), .int .i16 ((rd_T53 l1 x39_2).f4), .int .i8 ((rd_T53 l1 x39_2).f5)] from (k53_mkM _ _ _ (⟨(rd_T53 l1 x39_2).f0, (rd_T53 l1 x39_2).f1, (rd_T53 l1 x39_2).f2, (rd_T53 l1 x39_2).f3, (rd_T53 l1 x39_2).f4, (rd_T53 l1 x39_2).f5⟩ : S53) )) (Reps.none _ _)))
                      intro v234 w33 ho34 hb hg_ hnew_
                      clear hg_ hnew_; (first | rw [← Ny233.out] at ho34 | (simp only [Int.reduceToNat] at ho34; rw [← Ny233.out] at ho34))
                      have n0_ := Aside0.mk (Kd.R_below (by (with_reducible repeat (first | apply Kd.R_alloc | apply Kd.R_drewN | apply Kd.R_drew)); exact HO_11.out) hb)
                      have n1_ := Aside0.mk (Kd.R_lower (Kd.R_newB ho34 (g := gb229) (o := .cells #[.int .i16 ((rd_T53 l1 x39_2).f0), .int .i16 ((rd_T53 l1 x39_2).f1), .int .i16 ((rd_T53 l1 x39_2).f2), .int .i16 ((rd_T53 l1 x39_2).f3), .int .i16 ((rd_T53 l1 x39_2).f4), .int .i8 ((rd_T53 l1 x39_2).f5)] 53 (0, 0)) (by (with_reducible repeat (first | refine blk_drewN ?_ _ | refine blk_drew ?_ | refine blk_alloc ?_ _)); exact BK229.out)) (below_size (by repeat (first | (with_reducible first | exact HB.out | apply below_alloc | apply pw_below_drewN | apply below_drew1 | refine below_set ?_ GE229.out) | exact HB.out))))
                      have n2_ := Aside0.mk (blk_below (g := gb229) (o := .cells #[.int .i16 ((rd_T53 l1 x39_2).f0), .int .i16 ((rd_T53 l1 x39_2).f1), .int .i16 ((rd_T53 l1 x39_2).f2), .int .i16 ((rd_T53 l1 x39_2).f3), .int .i16 ((rd_T53 l1 x39_2).f4), .int .i8 ((rd_T53 l1 x39_2).f5)] 53 (0, 0)) (by (with_reducible repeat (first | refine blk_drewN ?_ _ | refine blk_drew ?_ | refine blk_alloc ?_ _)); exact BK229.out) hb)
                      have n3_ := Aside0.mk (below_step (by repeat (first | (with_reducible first | exact HB.out | apply below_alloc | apply pw_below_drewN | apply below_drew1 | refine below_set ?_ GE229.out) | exact HB.out)) hb)
                      clear HO_11; clear BK229; clear HB; have HO_11 := n0_; have HO235 := n1_; have BK229 := n2_; have HB := n3_; clear n0_ n1_ n2_ n3_; clear hb ho34; refine hK.out _ _ ⟨(blk_cell BK229.out 0).trans rfl, (blk_cell BK229.out 1).trans rfl, (blk_cell BK229.out 2).trans rfl, (blk_cell BK229.out 3).trans rfl, (blk_cell BK229.out 4).trans rfl, (blk_cell BK229.out 5).trans rfl⟩ (fun hHeld => ?_)
                      clear hK K; refine norm_ (a' := ?_) ?_ ?_; rotate_left
                      · show Act.put _ (some 49) _ = _
                        simp only [Act.put, List.setIfInBounds_toArray, List.set_cons_zero, List.set_cons_succ, i64_w, i32_w]
                        rfl
                      refine one_ (i := 3) (N := some 47) #[true, true, true, true, true, true, false, false] rfl rfl (one_of HT_.out (by kernel_rfl)) (by decide) (fun K hK => ?_)
                      refine goes_ Try.func32 (by kernel_rfl) rfl #[.slice A0 l0.length c0, .slice (some ad228) l1.length c1, .int .i64 a2] (by rfl) rfl rfl (by (try simp only [List.map_toArray, List.map_cons, List.map_nil]); first | done | rfl | (simp only [List.length_drop, List.length_take]; rfl)) ?_
                      with_reducible refine (impl_rowOn.calls k2 _ _ l0 _ _ l1 a2 t230 _ ?side1 ?side2 ?side3 ?side4 A27.out).mono ?_
                      (case side1 => repeat (first | exact (Kd.C_below HR0.out HB.out) | (with_reducible refine Kd.C_alloc ?_ _) | (with_reducible refine Kd.C_drewN ?_ _) | (with_reducible refine Kd.C_drew ?_)))
                      (case side2 => exact HC0.out)
                      (case side3 => repeat (first | exact (Kd.C_below HR1.out HB.out) | (with_reducible refine Kd.C_alloc ?_ _) | (with_reducible refine Kd.C_drewN ?_ _) | (with_reducible refine Kd.C_drew ?_)))
                      (case side4 => exact HC1.out)
                      rintro e w35 ⟨v231, rfl, ho0, hb⟩
                      refine ⟨_, rfl, ?_⟩
                      have n0_ := Aside0.mk (Kd.R_below (by (with_reducible repeat (first | apply Kd.R_alloc | apply Kd.R_drewN | apply Kd.R_drew)); exact HO_11.out) hb)
                      have n1_ := Aside0.mk (Kd.R_below (by (with_reducible repeat (first | apply Kd.R_alloc | apply Kd.R_drewN | apply Kd.R_drew)); exact HO235.out) hb)
                      have n2_ := Aside0.mk (Kd.R_lower ho0 (below_size (by repeat (first | (with_reducible first | exact HB.out | apply below_alloc | apply pw_below_drewN | apply below_drew1 | refine below_set ?_ GE229.out) | exact HB.out))))
                      have n3_ := Aside0.mk (blk_below (g := gb229) (o := .cells #[.int .i16 ((rd_T53 l1 x39_2).f0), .int .i16 ((rd_T53 l1 x39_2).f1), .int .i16 ((rd_T53 l1 x39_2).f2), .int .i16 ((rd_T53 l1 x39_2).f3), .int .i16 ((rd_T53 l1 x39_2).f4), .int .i8 ((rd_T53 l1 x39_2).f5)] 53 (0, 0)) (by (with_reducible repeat (first | refine blk_drewN ?_ _ | refine blk_drew ?_ | refine blk_alloc ?_ _)); exact BK229.out) hb)
                      have n4_ := Aside0.mk (below_step (by repeat (first | (with_reducible first | exact HB.out | apply below_alloc | apply pw_below_drewN | apply below_drew1 | refine below_set ?_ GE229.out) | exact HB.out)) hb)
                      clear HO_11; clear HO235; clear BK229; clear HB; have HO_11 := n0_; have HO235 := n1_; have HO232 := n2_; have BK229 := n3_; have HB := n4_; clear n0_ n1_ n2_ n3_ n4_; (try clear hb)
                      (try clear hb2)
                      (try clear hk)
                      (try clear hi)
                      (try clear ho0)
                      refine hK.out _ _ ⟨(blk_cell BK229.out 0).trans rfl, (blk_cell BK229.out 1).trans rfl, (blk_cell BK229.out 2).trans rfl, (blk_cell BK229.out 3).trans rfl, (blk_cell BK229.out 4).trans rfl, (blk_cell BK229.out 5).trans rfl⟩ (fun hHeld => ?_)
                      clear hK K; refine norm_ (a' := ?_) ?_ ?_; rotate_left
                      · show Act.put _ (some 47) _ = _
                        simp only [Act.put, List.setIfInBounds_toArray, List.set_cons_zero, List.set_cons_succ, i64_w, i32_w]
                        rfl
                      exact norm_ (by simp only [putAll, Act.put, List.setIfInBounds_toArray, List.set_cons_zero, List.set_cons_succ]) (hCont (v231, v234) _ ⟨hHeld, (by (with_reducible repeat (first | apply Kd.R_alloc | apply Kd.R_drewN | apply Kd.R_drew)); exact HO232.out), (by (with_reducible repeat (first | apply Kd.R_alloc | apply Kd.R_drewN | apply Kd.R_drew)); exact Kd.R_mono HO235.out (fun _ hk => hk.2)), (by (with_reducible repeat (first | apply Kd.R_alloc | apply Kd.R_drewN | apply Kd.R_drew)); exact HO_11.out), (by (with_reducible repeat (first | refine blk_drewN ?_ _ | refine blk_drew ?_ | refine blk_alloc ?_ _)); exact BK229.out), (by repeat (first | (with_reducible first | exact HB.out | apply below_alloc | apply pw_below_drewN | apply below_drew1 | refine below_set ?_ GE229.out) | exact HB.out))⟩)
                  rintro ⟨v231, v234⟩ w36 ⟨hS_, h0_, h1_, h2_, h3_, h4_⟩
                  have n0_ : Aside0 (Kd.R (Kd.int .u8) 5 w36 w.heap.size (fun _ => True) v231 t230) := ⟨h0_⟩
                  have n1_ : Aside0 (Kd.R k53 53 w36 w.heap.size (fun k_ => k_ ≠ gb229) v234 y233) := ⟨h1_⟩
                  have n2_ : Aside0 (Kd.R k64 64 w36 w.heap.size (fun _ => True) u11 x11_2) := ⟨h2_⟩
                  have n3_ : Aside0 (w36.heap[gb229]? = some (.cells #[.int .i16 ((rd_T53 l1 x39_2).f0), .int .i16 ((rd_T53 l1 x39_2).f1), .int .i16 ((rd_T53 l1 x39_2).f2), .int .i16 ((rd_T53 l1 x39_2).f3), .int .i16 ((rd_T53 l1 x39_2).f4), .int .i8 ((rd_T53 l1 x39_2).f5)] 53 (0, 0))) := ⟨h3_⟩
                  have n4_ : Aside0 (Below w.heap.size w w36) := ⟨h4_⟩
                  clear HO_11; clear BK229; clear HB; clear h0_ h1_ h2_ h3_ h4_; have HO232 := n0_; have HO235 := n1_; have HO_11 := n2_; have BK229 := n3_; have HB := n4_; clear n0_ n1_ n2_ n3_ n4_; have hHeld : w36.cell? ⟨gb229, 0, none⟩ = some (.int .i16 ((rd_T53 l1 x39_2).f0)) ∧ w36.cell? ⟨gb229, 1, none⟩ = some (.int .i16 ((rd_T53 l1 x39_2).f1)) ∧ w36.cell? ⟨gb229, 2, none⟩ = some (.int .i16 ((rd_T53 l1 x39_2).f2)) ∧ w36.cell? ⟨gb229, 3, none⟩ = some (.int .i16 ((rd_T53 l1 x39_2).f3)) ∧ w36.cell? ⟨gb229, 4, none⟩ = some (.int .i16 ((rd_T53 l1 x39_2).f4)) ∧ w36.cell? ⟨gb229, 5, none⟩ = some (.int .i8 ((rd_T53 l1 x39_2).f5)) := hS_
                  obtain ⟨Ao37, co37, eo37⟩ := Kd.R_slice HO232.out
                  (first | subst eo37 | (injection eo37 with f1_ f2_ f3_; have f4_ := f1_.symm; have f5_ := f3_.symm; clear f1_ f2_ f3_; subst f4_; subst f5_))
                  obtain ⟨Ao38, co38, eo38⟩ := Kd.R_slice HO235.out
                  (first | subst eo38 | (injection eo38 with f1_ f2_ f3_; have f4_ := f1_.symm; have f5_ := f3_.symm; clear f1_ f2_ f3_; subst f4_; subst f5_))
                  refine norm_ (a' := ?_) ?_ ?_; rotate_left
                  · simp only [putAll, Act.put, List.setIfInBounds_toArray, List.set_cons_zero, List.set_cons_succ]
                    rfl
                  refine one_ (i := 6) (N := some 50) #[true, true, true, true, true, true, true, false] rfl rfl (one_of HT_.out (by kernel_rfl)) (by decide) (fun K hK => ?_)
                  refine goes_ Try.func43 (by kernel_rfl) rfl #[.slice Ao37 t230.length co37, .slice Ao38 y233.length co38, .func (.func 44) #[] #[]] (by rfl) rfl rfl (by (try simp only [List.map_toArray, List.map_cons, List.map_nil]); first | done | rfl | (simp only [List.length_drop, List.length_take]; rfl)) ?_
                  with_reducible refine (mwalk.calls k2 _ _ t230 _ _ y233 t236 _ ?side1 ?side2 ?side3 ?side4 A28.out).mono ?_
                  (case side1 => repeat (first | exact (Kd.R_reads' HO232.out).2.2 | (with_reducible refine Kd.C_alloc ?_ _) | (with_reducible refine Kd.C_drewN ?_ _) | (with_reducible refine Kd.C_drew ?_)))
                  (case side2 => exact (Kd.R_reads' HO232.out).2.1)
                  (case side3 => repeat (first | exact (Kd.R_reads' HO235.out).2.2 | (with_reducible refine Kd.C_alloc ?_ _) | (with_reducible refine Kd.C_drewN ?_ _) | (with_reducible refine Kd.C_drew ?_)))
                  (case side4 => exact (Kd.R_reads' HO235.out).2.1)
                  rintro e w39 ⟨v237, rfl, ho0, hb⟩
                  refine ⟨_, rfl, ?_⟩
                  have n0_ := Aside0.mk (Kd.R_below (by (with_reducible repeat (first | apply Kd.R_alloc | apply Kd.R_drewN | apply Kd.R_drew)); exact HO_11.out) hb)
                  have n1_ := Aside0.mk (Kd.R_elder' (by (with_reducible repeat (first | apply Kd.R_alloc | apply Kd.R_drewN | apply Kd.R_drew)); exact HO232.out) (Kd.R_base ho0) hb)
                  have n2_ := Aside0.mk (Kd.R_below (by (with_reducible repeat (first | apply Kd.R_alloc | apply Kd.R_drewN | apply Kd.R_drew)); exact HO235.out) hb)
                  have n3_ := Aside0.mk (Kd.R_lower (Kd.R_new' ho0 (Kd.R_lt (by (with_reducible repeat (first | apply Kd.R_alloc | apply Kd.R_drewN | apply Kd.R_drew)); exact HO232.out))) (below_size (by repeat (first | (with_reducible first | exact HB.out | apply below_alloc | apply pw_below_drewN | apply below_drew1 | refine below_set ?_ GE229.out) | exact HB.out))))
                  have n4_ := Aside0.mk (blk_below (g := gb229) (o := .cells #[.int .i16 ((rd_T53 l1 x39_2).f0), .int .i16 ((rd_T53 l1 x39_2).f1), .int .i16 ((rd_T53 l1 x39_2).f2), .int .i16 ((rd_T53 l1 x39_2).f3), .int .i16 ((rd_T53 l1 x39_2).f4), .int .i8 ((rd_T53 l1 x39_2).f5)] 53 (0, 0)) (by (with_reducible repeat (first | refine blk_drewN ?_ _ | refine blk_drew ?_ | refine blk_alloc ?_ _)); exact BK229.out) hb)
                  have n5_ := Aside0.mk (below_step (by repeat (first | (with_reducible first | exact HB.out | apply below_alloc | apply pw_below_drewN | apply below_drew1 | refine below_set ?_ GE229.out) | exact HB.out)) hb)
                  clear HO_11; clear HO232; clear HO235; clear BK229; clear HB; have HO_11 := n0_; have HO232 := n1_; have HO235 := n2_; have HO238 := n3_; have BK229 := n4_; have HB := n5_; clear n0_ n1_ n2_ n3_ n4_ n5_; (try clear hb)
                  (try clear hb2)
                  (try clear hk)
                  (try clear hi)
                  (try clear ho0)
                  refine hK.out _ _ ⟨(blk_cell BK229.out 0).trans rfl, (blk_cell BK229.out 1).trans rfl, (blk_cell BK229.out 2).trans rfl, (blk_cell BK229.out 3).trans rfl, (blk_cell BK229.out 4).trans rfl, (blk_cell BK229.out 5).trans rfl⟩ (fun hHeld => ?_)
                  clear hK K; refine norm_ (a' := ?_) ?_ ?_; rotate_left
                  · show Act.put _ (some 50) _ = _
                    simp only [Act.put, List.setIfInBounds_toArray, List.set_cons_zero, List.set_cons_succ, i64_w, i32_w]
                    rfl
                  refine pure_ (i := 7) (N := some 14) (v := ?_) (a' := ?_) #[true, true, true, true, true, true, true, true] rfl rfl (any_of HT_.out (by kernel_rfl)) (fun _ _ _ h => h) (Or.inl ⟨by rfl, ?_⟩) ?_ ?_
                  rotate_left
                  · intro w'
                    go_simp
                    with_reducible rfl
                  rotate_left
                  · simp only [Act.put, List.setIfInBounds_toArray, List.set_cons_zero, List.set_cons_succ, i64_w, i32_w]
                    rfl
                  refine done_ (done_of HT_.out (by kernel_rfl)) ?_
                  try go_wp2
                  go_loopg [11, 15] k2 (fun kq v11 v15 w' => ∃ (x11_3 : List (S64)) (x15_3 : Int), v15 = .int .i64 x15_3 ∧ Aside0 (impl_MissedWalks.l1 kq l0 l1 a2 l3 x11_3 x39_2 t236 x15_3 l1 (l1.length : Int) x39_2 ((rd_T53 l1 x39_2).f0) ((rd_T53 l1 x39_2).f1) ((rd_T53 l1 x39_2).f2) ((rd_T53 l1 x39_2).f3) ((rd_T53 l1 x39_2).f4) ((rd_T53 l1 x39_2).f5) = some (r1, r2)) ∧ Aside0 (kq ≤ k2) ∧ Aside0 (Kd.R k64 64 w' w.heap.size (fun _ => True) v11 x11_3) ∧ Aside0 (Kd.R (Kd.int .u8) 5 w' w.heap.size (fun _ => True) v237 t236) ∧ Aside0 (w'.heap[gb229]? = some (.cells #[.int .i16 ((rd_T53 l1 x39_2).f0), .int .i16 ((rd_T53 l1 x39_2).f1), .int .i16 ((rd_T53 l1 x39_2).f2), .int .i16 ((rd_T53 l1 x39_2).f3), .int .i16 ((rd_T53 l1 x39_2).f4), .int .i8 ((rd_T53 l1 x39_2).f5)] 53 (0, 0))) ∧ Aside0 (Below w.heap.size w w'))
                  case atStart => exact ⟨(x11_2), (0), (by first | rfl | (simp; done) | (simp [*]; done)), H', ⟨Nat.le_refl _⟩, ⟨by (with_reducible repeat (first | apply Kd.R_alloc | apply Kd.R_drewN | apply Kd.R_drew)); exact HO_11.out⟩, ⟨by (with_reducible repeat (first | apply Kd.R_alloc | apply Kd.R_drewN | apply Kd.R_drew)); exact Kd.R_mono HO238.out (fun _ hk => trivial)⟩, ⟨by (with_reducible repeat (first | refine blk_drewN ?_ _ | refine blk_drew ?_ | refine blk_alloc ?_ _)); exact BK229.out⟩, ⟨by repeat (first | (with_reducible first | exact HB.out | apply below_alloc | apply pw_below_drewN | apply below_drew1 | refine below_set ?_ GE229.out) | exact HB.out)⟩⟩
                  case round =>
                    clear H'; try clear c1
                    try clear c2
                    try clear p2
                    try clear q2
                    try clear hx2
                    try clear c3
                    try clear c4
                    try clear c6
                    try clear c7
                    try clear c9
                    try clear c18
                    try clear c21
                    try clear c21b0
                    try clear c21b1
                    try clear p22
                    try clear q22
                    try clear hx22
                    try clear c24
                    try clear c24b0
                    try clear c25
                    try clear c25b0
                    try clear c26
                    try clear c26b0
                    try clear c30
                    try clear c32
                    try clear hcz30_0
                    try clear hcz30_1
                    try clear hcz30_2
                    try clear hcz30_3
                    try clear hcz30_4
                    try clear hcz30_5
                    try clear hfz30_0
                    try clear hfz30_1
                    try clear hfz30_2
                    try clear hfz30_3
                    try clear hfz30_4
                    try clear hfz30_5
                    try clear hx228_0
                    try clear hx228_1
                    try clear hx228_2
                    try clear hx228_3
                    try clear hx228_4
                    try clear hx228_5
                    try clear p2
                    try clear p228
                    try clear q228
                    obtain ⟨x11_3, x15_3, rfl, HA, HK3, HO_11, HO_14, BK229, HB⟩ := hrel
                    cases gk with
                    | zero => exact absurd HA.out (by simp [impl_MissedWalks.l1])
                    | succ k3 =>
                      have H := HA.out; clear HA; simp only [impl_MissedWalks.l1] at H
                      have HC40 := Aside0.mk H; clear H; go_upto_region 10 with (fail)
                      go_cut [58] (fun v58 wc => ∃ (kq : Nat) (x58_39 : Bool), v58 = .bool x58_39 ∧ Aside0 (impl_MissedWalks.j3 kq l0 l1 a2 l3 x11_3 x39_2 t236 x15_3 l1 (l1.length : Int) x39_2 x58_39 ((rd_T53 l1 x39_2).f0) ((rd_T53 l1 x39_2).f1) ((rd_T53 l1 x39_2).f2) ((rd_T53 l1 x39_2).f3) ((rd_T53 l1 x39_2).f4) ((rd_T53 l1 x39_2).f5) = some (r1, r2)) ∧ Aside0 (kq ≤ k3) ∧ Aside0 (Kd.R k64 64 wc w.heap.size (fun _ => True) u11 x11_3) ∧ Aside0 (Kd.R (Kd.int .u8) 5 wc w.heap.size (fun _ => True) v237 t236) ∧ Aside0 (wc.heap[gb229]? = some (.cells #[.int .i16 ((rd_T53 l1 x39_2).f0), .int .i16 ((rd_T53 l1 x39_2).f1), .int .i16 ((rd_T53 l1 x39_2).f2), .int .i16 ((rd_T53 l1 x39_2).f3), .int .i16 ((rd_T53 l1 x39_2).f4), .int .i8 ((rd_T53 l1 x39_2).f5)] 53 (0, 0))) ∧ Aside0 (Below w.heap.size w wc))
                      case first =>
                        have H := HC40.out; clear HC40; by_cases c41 : x15_3 ≤ a2
                        · rw [if_pos c41] at H
                          have c41b0 : decide (x15_3 ≤ a2) = true := decide_eq_true c41
                          clear c41; (first | rw [c41b0] | (simp only [i64_w, i32_w]; rw [c41b0]) | skip)
                          replace H := Option.bind_eq_some_iff.mp H; obtain ⟨t239, A420, H⟩ := H; replace H : (impl_MissedWalks.j3 k3 l0 l1 a2 l3 x11_3 x39_2 t236 x15_3 l1 (l1.length : Int) x39_2 t239 ((rd_T53 l1 x39_2).f0) ((rd_T53 l1 x39_2).f1) ((rd_T53 l1 x39_2).f2) ((rd_T53 l1 x39_2).f3) ((rd_T53 l1 x39_2).f4) ((rd_T53 l1 x39_2).f5)) = some (r1, r2) := H
                          have A42 := Aside0.mk A420; clear A420; have H' := Aside0.mk H; clear H; obtain ⟨Ao43, co43, eo43⟩ := Kd.R_slice HO_14.out
                          subst eo43; go_wp2_with (first | (go_at_call 45; (with_reducible refine (impl_Row_uint8_45.calls k3 _ _ t236 _ _ l3 t239 _ ?side1 ?side2 ?side3 ?side4 A42.out).mono ?_); (case side1 => repeat (first | exact (Kd.R_reads' HO_14.out).2.2 | (with_reducible refine Kd.C_alloc ?_ _) | (with_reducible refine Kd.C_drewN ?_ _) | (with_reducible refine Kd.C_drew ?_))); (case side2 => exact (Kd.R_reads' HO_14.out).2.1); (case side3 => repeat (first | exact (Kd.C_below HR3.out HB.out) | (with_reducible refine Kd.C_alloc ?_ _) | (with_reducible refine Kd.C_drewN ?_ _) | (with_reducible refine Kd.C_drew ?_))); (case side4 => exact HC3.out); rintro e w' ⟨rfl, ⟨nd, rfl⟩⟩))
                          go_meet
                          case rel => exact ⟨_, (t239), (by first | rfl | (simp; done) | (simp [*]; done)), H', ⟨by have := HJ4.out; have := HK2.out; have := HK3.out; first | omega | exact Nat.le_refl _⟩, ⟨by (with_reducible repeat (first | apply Kd.R_alloc | apply Kd.R_drewN | apply Kd.R_drew)); exact HO_11.out⟩, ⟨by (with_reducible repeat (first | apply Kd.R_alloc | apply Kd.R_drewN | apply Kd.R_drew)); exact HO_14.out⟩, ⟨by (with_reducible repeat (first | refine blk_drewN ?_ _ | refine blk_drew ?_ | refine blk_alloc ?_ _)); exact BK229.out⟩, ⟨by repeat (first | (with_reducible first | exact HB.out | apply below_alloc | apply pw_below_drewN | apply below_drew1 | refine below_set ?_ GE229.out) | exact HB.out)⟩⟩
                        · rw [if_neg c41] at H
                          have c41b0 : decide (x15_3 ≤ a2) = false := decide_eq_false c41
                          clear c41; (first | rw [c41b0] | (simp only [i64_w, i32_w]; rw [c41b0]) | skip)
                          have H' := Aside0.mk H; clear H; go_wp2
                          go_meet
                          case rel => exact ⟨_, (false), (by first | rfl | (simp; done) | (simp [*]; done)), H', ⟨by have := HJ4.out; have := HK2.out; have := HK3.out; first | omega | exact Nat.le_refl _⟩, ⟨by (with_reducible repeat (first | apply Kd.R_alloc | apply Kd.R_drewN | apply Kd.R_drew)); exact HO_11.out⟩, ⟨by (with_reducible repeat (first | apply Kd.R_alloc | apply Kd.R_drewN | apply Kd.R_drew)); exact HO_14.out⟩, ⟨by (with_reducible repeat (first | refine blk_drewN ?_ _ | refine blk_drew ?_ | refine blk_alloc ?_ _)); exact BK229.out⟩, ⟨by repeat (first | (with_reducible first | exact HB.out | apply below_alloc | apply pw_below_drewN | apply below_drew1 | refine below_set ?_ GE229.out) | exact HB.out)⟩⟩
                      case rest =>
                        clear HC40; try clear c1
                        try clear c2
                        try clear p2
                        try clear q2
                        try clear hx2
                        try clear c3
                        try clear c4
                        try clear c6
                        try clear c7
                        try clear c9
                        try clear c18
                        try clear c21
                        try clear c21b0
                        try clear c21b1
                        try clear p22
                        try clear q22
                        try clear hx22
                        try clear c24
                        try clear c24b0
                        try clear c25
                        try clear c25b0
                        try clear c26
                        try clear c26b0
                        try clear c30
                        try clear c32
                        try clear c40
                        try clear c41
                        try clear c41b0
                        try clear c42
                        try clear hcz30_0
                        try clear hcz30_1
                        try clear hcz30_2
                        try clear hcz30_3
                        try clear hcz30_4
                        try clear hcz30_5
                        try clear hfz30_0
                        try clear hfz30_1
                        try clear hfz30_2
                        try clear hfz30_3
                        try clear hfz30_4
                        try clear hfz30_5
                        try clear hx228_0
                        try clear hx228_1
                        try clear hx228_2
                        try clear hx228_3
                        try clear hx228_4
                        try clear hx228_5
                        try clear p2
                        try clear p22
                        try clear p228
                        try clear q2
                        try clear q22
                        try clear q228
                        obtain ⟨kq, x58_39, rfl, HA, HJ39, HO_11, HO_14, BK229, HB⟩ := hcut
                        cases kq with
                        | zero => exact absurd HA.out (by simp [impl_MissedWalks.j3])
                        | succ kj39 =>
                          have H := HA.out; clear HA; simp only [impl_MissedWalks.j3] at H
                          by_cases c44 : x58_39 = true
                          · subst c44
                            have H1 : ((impl_Walker_comes.f ((rd_T53 l1 x39_2).f0) ((rd_T53 l1 x39_2).f1) ((rd_T53 l1 x39_2).f2) ((rd_T53 l1 x39_2).f3) ((rd_T53 l1 x39_2).f4) ((rd_T53 l1 x39_2).f5) x15_3).bind fun t240 => (if t240 = true then (if x11_3.length < 8796093022208 then (impl_MissedWalks.l1 kj39 l0 l1 a2 l3 (x11_3 ++ [(⟨x39_2, x15_3⟩ : S64)]) x39_2 t236 (wrap64 (x15_3 + 1)) l1 (l1.length : Int) x39_2 ((rd_T53 l1 x39_2).f0) ((rd_T53 l1 x39_2).f1) ((rd_T53 l1 x39_2).f2) ((rd_T53 l1 x39_2).f3) ((rd_T53 l1 x39_2).f4) ((rd_T53 l1 x39_2).f5)) else (none)) else (impl_MissedWalks.l1 kj39 l0 l1 a2 l3 x11_3 x39_2 t236 (wrap64 (x15_3 + 1)) l1 (l1.length : Int) x39_2 ((rd_T53 l1 x39_2).f0) ((rd_T53 l1 x39_2).f1) ((rd_T53 l1 x39_2).f2) ((rd_T53 l1 x39_2).f3) ((rd_T53 l1 x39_2).f4) ((rd_T53 l1 x39_2).f5)))) = some (r1, r2) := by rw [if_pos rfl] at H; exact H
                            clear H; have H := H1; clear H1; replace H := Option.bind_eq_some_iff.mp H; obtain ⟨t240, A450, H⟩ := H; replace H : (if t240 = true then (if x11_3.length < 8796093022208 then (impl_MissedWalks.l1 kj39 l0 l1 a2 l3 (x11_3 ++ [(⟨x39_2, x15_3⟩ : S64)]) x39_2 t236 (wrap64 (x15_3 + 1)) l1 (l1.length : Int) x39_2 ((rd_T53 l1 x39_2).f0) ((rd_T53 l1 x39_2).f1) ((rd_T53 l1 x39_2).f2) ((rd_T53 l1 x39_2).f3) ((rd_T53 l1 x39_2).f4) ((rd_T53 l1 x39_2).f5)) else (none)) else (impl_MissedWalks.l1 kj39 l0 l1 a2 l3 x11_3 x39_2 t236 (wrap64 (x15_3 + 1)) l1 (l1.length : Int) x39_2 ((rd_T53 l1 x39_2).f0) ((rd_T53 l1 x39_2).f1) ((rd_T53 l1 x39_2).f2) ((rd_T53 l1 x39_2).f3) ((rd_T53 l1 x39_2).f4) ((rd_T53 l1 x39_2).f5))) = some (r1, r2) := H
                            have A45 := Aside0.mk A450; clear A450; by_cases c46 : t240 = true
                            · subst c46
                              have H1 : (if x11_3.length < 8796093022208 then (impl_MissedWalks.l1 kj39 l0 l1 a2 l3 (x11_3 ++ [(⟨x39_2, x15_3⟩ : S64)]) x39_2 t236 (wrap64 (x15_3 + 1)) l1 (l1.length : Int) x39_2 ((rd_T53 l1 x39_2).f0) ((rd_T53 l1 x39_2).f1) ((rd_T53 l1 x39_2).f2) ((rd_T53 l1 x39_2).f3) ((rd_T53 l1 x39_2).f4) ((rd_T53 l1 x39_2).f5)) else (none)) = some (r1, r2) := by rw [if_pos rfl] at H; exact H
                              clear H; have H := H1; clear H1; by_cases c47 : x11_3.length < 8796093022208
                              · rw [if_pos c47] at H
                                have LMc47 := Aside0.mk c47; clear c47; obtain ⟨y241, hy241⟩ : ∃ y_ : List (S64), y_ = (x11_3 ++ [(⟨x39_2, x15_3⟩ : S64)]) := ⟨_, rfl⟩
                                replace H : (impl_MissedWalks.l1 kj39 l0 l1 a2 l3 y241 x39_2 t236 (wrap64 (x15_3 + 1)) l1 (l1.length : Int) x39_2 ((rd_T53 l1 x39_2).f0) ((rd_T53 l1 x39_2).f1) ((rd_T53 l1 x39_2).f2) ((rd_T53 l1 x39_2).f3) ((rd_T53 l1 x39_2).f4) ((rd_T53 l1 x39_2).f5)) = some (r1, r2) := by first | (rw [hy241]; with_reducible exact H) | (have H2_ := (Option.bind_some _ _).symm.trans H; rw [hy241]; with_reducible exact H2_) | (have H2_ := (Option.bind_some _ _).symm.trans H; with_reducible exact H2_) | with_reducible exact H | (rw [hy241]; exact H) | exact H
                                have Ny241 := Aside0.mk hy241; clear hy241; have H' := Aside0.mk H; clear H; have hcz48_0 : wc.cell? ⟨gb229, 0, none⟩ = some (.int .i16 ((rd_T53 l1 x39_2).f0)) := (blk_cell BK229.out 0).trans rfl
                                have hcz48_1 : wc.cell? ⟨gb229, 1, none⟩ = some (.int .i16 ((rd_T53 l1 x39_2).f1)) := (blk_cell BK229.out 1).trans rfl
                                have hcz48_2 : wc.cell? ⟨gb229, 2, none⟩ = some (.int .i16 ((rd_T53 l1 x39_2).f2)) := (blk_cell BK229.out 2).trans rfl
                                have hcz48_3 : wc.cell? ⟨gb229, 3, none⟩ = some (.int .i16 ((rd_T53 l1 x39_2).f3)) := (blk_cell BK229.out 3).trans rfl
                                have hcz48_4 : wc.cell? ⟨gb229, 4, none⟩ = some (.int .i16 ((rd_T53 l1 x39_2).f4)) := (blk_cell BK229.out 4).trans rfl
                                have hcz48_5 : wc.cell? ⟨gb229, 5, none⟩ = some (.int .i8 ((rd_T53 l1 x39_2).f5)) := (blk_cell BK229.out 5).trans rfl
                                have hfz48_0 := blk_frozen BK229.out 0
                                have hfz48_1 := blk_frozen BK229.out 1
                                have hfz48_2 := blk_frozen BK229.out 2
                                have hfz48_3 := blk_frozen BK229.out 3
                                have hfz48_4 := blk_frozen BK229.out 4
                                have hfz48_5 := blk_frozen BK229.out 5
                                go_wp2_with (first | ((with_reducible refine gate_callee (f := 46) rfl ?_); refine goesL_ (some 63) rfl rfl Try.func46 (by kernel_rfl) rfl #[.agg #[.int .i16 ((rd_T53 l1 x39_2).f0), .int .i16 ((rd_T53 l1 x39_2).f1), .int .i16 ((rd_T53 l1 x39_2).f2), .int .i16 ((rd_T53 l1 x39_2).f3), .int .i16 ((rd_T53 l1 x39_2).f4), .int .i8 ((rd_T53 l1 x39_2).f5)], .int .i64 x15_3] rfl (by (try simp only [List.map_toArray, List.map_cons, List.map_nil]); first | done | rfl | (simp only [List.length_drop, List.length_take]; rfl)) ?_; (with_reducible refine (impl_Walker_comes.calls ((rd_T53 l1 x39_2).f0) ((rd_T53 l1 x39_2).f1) ((rd_T53 l1 x39_2).f2) ((rd_T53 l1 x39_2).f3) ((rd_T53 l1 x39_2).f4) ((rd_T53 l1 x39_2).f5) x15_3 true _ A45.out).mono ?_); rintro e w49 ⟨rfl, hb⟩; refine ⟨_, rfl, ?_⟩; have n0_ := Aside0.mk (Kd.R_below (by (with_reducible repeat (first | apply Kd.R_alloc | apply Kd.R_drewN | apply Kd.R_drew)); exact HO_11.out) hb); have n1_ := Aside0.mk (Kd.R_below (by (with_reducible repeat (first | apply Kd.R_alloc | apply Kd.R_drewN | apply Kd.R_drew)); exact HO_14.out) hb); have n2_ := Aside0.mk (blk_below (g := gb229) (o := .cells #[.int .i16 ((rd_T53 l1 x39_2).f0), .int .i16 ((rd_T53 l1 x39_2).f1), .int .i16 ((rd_T53 l1 x39_2).f2), .int .i16 ((rd_T53 l1 x39_2).f3), .int .i16 ((rd_T53 l1 x39_2).f4), .int .i8 ((rd_T53 l1 x39_2).f5)] 53 (0, 0)) (by (with_reducible repeat (first | refine blk_drewN ?_ _ | refine blk_drew ?_ | refine blk_alloc ?_ _)); exact BK229.out) hb); have n3_ := Aside0.mk (below_step (by repeat (first | (with_reducible first | exact HB.out | apply below_alloc | apply pw_below_drewN | apply below_drew1 | refine below_set ?_ GE229.out) | exact HB.out)) hb); clear HO_11; clear HO_14; clear BK229; clear HB; have HO_11 := n0_; have HO_14 := n1_; have BK229 := n2_; have HB := n3_; clear n0_ n1_ n2_ n3_; (try clear hb); (try clear hb2); (try clear hk); (try clear hi)) | ((with_reducible refine gate_builtin (b := .append) (xs := #[.tmp 64, .tmp 68]) rfl ?_); (try (refine gate_guard (by rfl) ?_; dsimp only)); at_builtin; refine Kd.R_append k64 (w0 := w) w.heap.size rfl (.tmp 64) (.tmp 68) 39 64 (.agg #[(.int .i64 0), (.int .i64 0)]) 16 rfl Try.underlying39 info64 rfl (by decide) (by omega) u11 x11_3 (⟨x39_2, x15_3⟩ : S64) [.int .i64 x39_2, .int .i64 x15_3] (fun _ => True) (fun _ => False) rfl rfl ?aP (fun _ hk => hk.elim) ?aF ?aO ?aB ?aS ?aL ?_; (case aP => exact k64_mkM _ _ _ (⟨x39_2, x15_3⟩ : S64)); (case aB => exact (by repeat (first | (with_reducible first | exact HB.out | apply below_alloc | apply pw_below_drewN | apply below_drew1 | refine below_set ?_ GE229.out) | exact HB.out))); (case aF => exact (fun _ _ => trivial)); (case aO => exact (by (with_reducible repeat (first | apply Kd.R_alloc | apply Kd.R_drewN | apply Kd.R_drew)); exact HO_11.out)); (case aS => exact (below_size (by repeat (first | (with_reducible first | exact HB.out | apply below_alloc | apply pw_below_drewN | apply below_drew1 | refine below_set ?_ GE229.out) | exact HB.out)))); (case aL => have := LMc47.out; omega); intro v242 w50 ho hb hg hat; rw [← Ny241.out] at ho; have n0_ := Aside0.mk (Kd.R_over' (by (with_reducible repeat (first | apply Kd.R_alloc | apply Kd.R_drewN | apply Kd.R_drew)); exact HO_14.out) (Kd.R_typed (by (with_reducible repeat (first | apply Kd.R_alloc | apply Kd.R_drewN | apply Kd.R_drew)); exact HO_11.out)) (by decide) hg); have n1_ := Aside0.mk (blk_grown (g := gb229) (o := .cells #[.int .i16 ((rd_T53 l1 x39_2).f0), .int .i16 ((rd_T53 l1 x39_2).f1), .int .i16 ((rd_T53 l1 x39_2).f2), .int .i16 ((rd_T53 l1 x39_2).f3), .int .i16 ((rd_T53 l1 x39_2).f4), .int .i8 ((rd_T53 l1 x39_2).f5)] 53 (0, 0)) (by (with_reducible repeat (first | refine blk_drewN ?_ _ | refine blk_drew ?_ | refine blk_alloc ?_ _)); exact BK229.out) hg (Kd.R_ne HO_11.out BK229.out (by decide))); have n2_ := Aside0.mk (hb); have n3_ := Aside0.mk (ho); clear HO_14; clear BK229; clear HB; clear HO_11; have HO_14 := n0_; have BK229 := n1_; have HB := n2_; have HO243 := n3_; clear n0_ n1_ n2_ n3_; clear ho hb hg hat))
                                go_roundg kj39
                                case measure => have := HJ4.out; have := HK2.out; have := HK3.out; have := HJ39.out; omega
                                case rel => exact ⟨(y241), (wrap64 (x15_3 + 1)), (by first | rfl | (simp; done) | (simp [*]; done)), H', ⟨by have := HJ4.out; have := HK2.out; have := HK3.out; have := HJ39.out; omega⟩, ⟨by (with_reducible repeat (first | apply Kd.R_alloc | apply Kd.R_drewN | apply Kd.R_drew)); exact HO243.out⟩, ⟨by (with_reducible repeat (first | apply Kd.R_alloc | apply Kd.R_drewN | apply Kd.R_drew)); exact HO_14.out⟩, ⟨by (with_reducible repeat (first | refine blk_drewN ?_ _ | refine blk_drew ?_ | refine blk_alloc ?_ _)); exact BK229.out⟩, ⟨by repeat (first | (with_reducible first | exact HB.out | apply below_alloc | apply pw_below_drewN | apply below_drew1 | refine below_set ?_ GE229.out) | exact HB.out)⟩⟩
                              · rw [if_neg c47] at H
                                exact absurd H (by simp)
                            · replace c46 := Bool.eq_false_iff.mpr c46
                              subst c46; have H1 : (impl_MissedWalks.l1 kj39 l0 l1 a2 l3 x11_3 x39_2 t236 (wrap64 (x15_3 + 1)) l1 (l1.length : Int) x39_2 ((rd_T53 l1 x39_2).f0) ((rd_T53 l1 x39_2).f1) ((rd_T53 l1 x39_2).f2) ((rd_T53 l1 x39_2).f3) ((rd_T53 l1 x39_2).f4) ((rd_T53 l1 x39_2).f5)) = some (r1, r2) := by rw [if_neg (show ¬ (false = true) by decide)] at H; exact H
                              clear H; have H := H1; clear H1; have H' := Aside0.mk H; clear H; have hcz51_0 : wc.cell? ⟨gb229, 0, none⟩ = some (.int .i16 ((rd_T53 l1 x39_2).f0)) := (blk_cell BK229.out 0).trans rfl
                              have hcz51_1 : wc.cell? ⟨gb229, 1, none⟩ = some (.int .i16 ((rd_T53 l1 x39_2).f1)) := (blk_cell BK229.out 1).trans rfl
                              have hcz51_2 : wc.cell? ⟨gb229, 2, none⟩ = some (.int .i16 ((rd_T53 l1 x39_2).f2)) := (blk_cell BK229.out 2).trans rfl
                              have hcz51_3 : wc.cell? ⟨gb229, 3, none⟩ = some (.int .i16 ((rd_T53 l1 x39_2).f3)) := (blk_cell BK229.out 3).trans rfl
                              have hcz51_4 : wc.cell? ⟨gb229, 4, none⟩ = some (.int .i16 ((rd_T53 l1 x39_2).f4)) := (blk_cell BK229.out 4).trans rfl
                              have hcz51_5 : wc.cell? ⟨gb229, 5, none⟩ = some (.int .i8 ((rd_T53 l1 x39_2).f5)) := (blk_cell BK229.out 5).trans rfl
                              have hfz51_0 := blk_frozen BK229.out 0
                              have hfz51_1 := blk_frozen BK229.out 1
                              have hfz51_2 := blk_frozen BK229.out 2
                              have hfz51_3 := blk_frozen BK229.out 3
                              have hfz51_4 := blk_frozen BK229.out 4
                              have hfz51_5 := blk_frozen BK229.out 5
                              go_wp2_with (first | ((with_reducible refine gate_callee (f := 46) rfl ?_); refine goesL_ (some 63) rfl rfl Try.func46 (by kernel_rfl) rfl #[.agg #[.int .i16 ((rd_T53 l1 x39_2).f0), .int .i16 ((rd_T53 l1 x39_2).f1), .int .i16 ((rd_T53 l1 x39_2).f2), .int .i16 ((rd_T53 l1 x39_2).f3), .int .i16 ((rd_T53 l1 x39_2).f4), .int .i8 ((rd_T53 l1 x39_2).f5)], .int .i64 x15_3] rfl (by (try simp only [List.map_toArray, List.map_cons, List.map_nil]); first | done | rfl | (simp only [List.length_drop, List.length_take]; rfl)) ?_; (with_reducible refine (impl_Walker_comes.calls ((rd_T53 l1 x39_2).f0) ((rd_T53 l1 x39_2).f1) ((rd_T53 l1 x39_2).f2) ((rd_T53 l1 x39_2).f3) ((rd_T53 l1 x39_2).f4) ((rd_T53 l1 x39_2).f5) x15_3 false _ A45.out).mono ?_); rintro e w52 ⟨rfl, hb⟩; refine ⟨_, rfl, ?_⟩; have n0_ := Aside0.mk (Kd.R_below (by (with_reducible repeat (first | apply Kd.R_alloc | apply Kd.R_drewN | apply Kd.R_drew)); exact HO_11.out) hb); have n1_ := Aside0.mk (Kd.R_below (by (with_reducible repeat (first | apply Kd.R_alloc | apply Kd.R_drewN | apply Kd.R_drew)); exact HO_14.out) hb); have n2_ := Aside0.mk (blk_below (g := gb229) (o := .cells #[.int .i16 ((rd_T53 l1 x39_2).f0), .int .i16 ((rd_T53 l1 x39_2).f1), .int .i16 ((rd_T53 l1 x39_2).f2), .int .i16 ((rd_T53 l1 x39_2).f3), .int .i16 ((rd_T53 l1 x39_2).f4), .int .i8 ((rd_T53 l1 x39_2).f5)] 53 (0, 0)) (by (with_reducible repeat (first | refine blk_drewN ?_ _ | refine blk_drew ?_ | refine blk_alloc ?_ _)); exact BK229.out) hb); have n3_ := Aside0.mk (below_step (by repeat (first | (with_reducible first | exact HB.out | apply below_alloc | apply pw_below_drewN | apply below_drew1 | refine below_set ?_ GE229.out) | exact HB.out)) hb); clear HO_11; clear HO_14; clear BK229; clear HB; have HO_11 := n0_; have HO_14 := n1_; have BK229 := n2_; have HB := n3_; clear n0_ n1_ n2_ n3_; (try clear hb); (try clear hb2); (try clear hk); (try clear hi)))
                              go_roundg kj39
                              case measure => have := HJ4.out; have := HK2.out; have := HK3.out; have := HJ39.out; omega
                              case rel => exact ⟨(x11_3), (wrap64 (x15_3 + 1)), (by first | rfl | (simp; done) | (simp [*]; done)), H', ⟨by have := HJ4.out; have := HK2.out; have := HK3.out; have := HJ39.out; omega⟩, ⟨by (with_reducible repeat (first | apply Kd.R_alloc | apply Kd.R_drewN | apply Kd.R_drew)); exact HO_11.out⟩, ⟨by (with_reducible repeat (first | apply Kd.R_alloc | apply Kd.R_drewN | apply Kd.R_drew)); exact HO_14.out⟩, ⟨by (with_reducible repeat (first | refine blk_drewN ?_ _ | refine blk_drew ?_ | refine blk_alloc ?_ _)); exact BK229.out⟩, ⟨by repeat (first | (with_reducible first | exact HB.out | apply below_alloc | apply pw_below_drewN | apply below_drew1 | refine below_set ?_ GE229.out) | exact HB.out)⟩⟩
                          · replace c44 := Bool.eq_false_iff.mpr c44
                            subst c44; have H1 : (impl_MissedWalks.l0 kj39 l0 l1 a2 l3 x11_3 l1 (l1.length : Int) (wrap64 (x39_2 + 1))) = some (r1, r2) := by rw [if_neg (show ¬ (false = true) by decide)] at H; exact H
                            clear H; have H := H1; clear H1; have H' := Aside0.mk H; clear H; go_wp2
                            go_roundg kj39
                            case measure => have := HJ4.out; have := HK2.out; have := HK3.out; have := HJ39.out; omega
                            case rel => exact ⟨(x11_3), (wrap64 (x39_2 + 1)), (by first | rfl | (simp; done) | (simp [*]; done)), H', ⟨by have := HJ4.out; have := HK2.out; have := HK3.out; have := HJ39.out; omega⟩, ⟨by (with_reducible repeat (first | apply Kd.R_alloc | apply Kd.R_drewN | apply Kd.R_drew)); exact HO_11.out⟩, ⟨by repeat (first | (with_reducible first | exact HB.out | apply below_alloc | apply pw_below_drewN | apply below_drew1 | refine below_set ?_ GE229.out) | exact HB.out)⟩⟩
                · rw [if_neg c26] at H
                  exact absurd H (by simp)
              · rw [if_neg c25] at H
                exact absurd H (by simp)
            · rw [if_neg c24] at H
              have c24b0 : decide (x39_2 < (l1.length : Int)) = false := decide_eq_false c24
              clear c24; simp only [Option.some.injEq, Prod.mk.injEq] at H
              obtain ⟨rfl, rfl⟩ := H; go_wp2
              go_ret2
              exact ⟨_, by first | rfl | (simp [errW_none, errW_some] <;> rfl) | (simp [*, errW_none, errW_some] <;> rfl), by (with_reducible repeat (first | apply Kd.R_alloc | apply Kd.R_drewN | apply Kd.R_drew)); exact HO_11.out, by repeat (first | (with_reducible first | exact HB.out | apply below_alloc | apply pw_below_drewN | apply below_drew1) | exact HB.out)⟩
      · rw [if_neg c21] at H
        have c21b0 : (x10_4 == 0) = false := beq_eq_false_iff_ne.mpr c21; have c21b1 : (x10_4 != 0) = true := bne_iff_ne.mpr c21; simp only [Option.some.injEq, Prod.mk.injEq] at H
        obtain ⟨rfl, rfl⟩ := H; go_wp2
        go_ret2
        exact ⟨_, by first | rfl | (simp [errW_none, errW_some] <;> rfl) | (simp [*, errW_none, errW_some] <;> rfl), by first | exact Kd.R_nil _ _ _ _ _ | exact Kd.N_nil _ _ _ _ _ | exact Kd.V_nil _ _ _ _ _ | exact Kd.Q_nil _ _ _ _ _ | exact Kd.S_nil _ _ _ _ _, by repeat (first | (with_reducible first | exact HB.out | apply below_alloc | apply pw_below_drewN | apply below_drew1) | exact HB.out)⟩
end Go.Proofs.Ythkifkfnlmjafaa.G
