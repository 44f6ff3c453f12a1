/- impl.FewestPayments, walked by hand: what is left is a row that two closures capture; its round writes two places of it in an open order. The numbers are those of the seat of FnExactFewestPayments and FnPayments. -/
import Derived.Test.YtljkamjdpjaooaaPl
import Derived.Test.YtljkamjdpjaooaaG5
import Derived.Test.YtljkamjdpjaooaaFCloneI64
import Derived.Test.YtljkamjdpjaooaaFGroups
import Derived.BigQuiet
import Derived.BigRegion
import Derived.ChangeAlike
namespace Go.Proofs.Ytljkamjdpjaooaa.G
open Go.RowKit Go.Proofs.YtljkamjdpjaooaaW.PrintWords Go.Proofs.YtljkamjdpjaooaaW.PrintLast Go.Proofs.YtljkamjdpjaooaaW.PrintMore
attribute [local go_sem] max2_int min2_int max_two min_two max_three min_three max_four min_four   -- for this text's walks alone
set_option linter.unusedVariables false
set_option linter.unusedSimpArgs false

open Go.Proofs.Ytljkamjdpjaooaa.Wk Go.Proofs.Ytljkamjdpjaooaa.Pl
namespace Few
abbrev P := S39
def neg (left own : List Int) (j : Nat) : Bool := decide (rd left (rd own (j : Int)) < 0)
def pos (left own : List Int) (j : Nat) : Bool := decide (0 < rd left (rd own (j : Int)))
def fits (left own : List Int) : Bool := own.all fun x => decide (0 ≤ x) && decide (x < (left.length : Int))
def amount (left : List Int) (f t : Int) : Int := mn (wrap64 (-(rd left f))) (rd left t)
def put (left : List Int) (f t a : Int) : List Int := (left.set f.toNat (wrap64 (rd left f + a))).set t.toNat (wrap64 (rd left t - a))
def pay (f t a : Int) : P := ⟨IntKind.i8.wrap f, IntKind.i8.wrap t, a⟩
/-- One group's payments. -/
def inner : Nat → List Int → List Int → List P → Option (List Int × List P)
  | 0, _, _, _ => none
  | k + 1, own, left, out =>
    if fits left own = true then
      (if wkFirst (neg left own) own.length < 0 then some (left, out)
       else if wkFirst (pos left own) own.length < 0 then none
       else if out.length < 8796093022207 then inner k own (put left (rd own (wkFirst (neg left own) own.length)) (rd own (wkFirst (pos left own) own.length)) (amount left (rd own (wkFirst (neg left own) own.length)) (rd own (wkFirst (pos left own) own.length))))
          (out ++ [pay (rd own (wkFirst (neg left own) own.length)) (rd own (wkFirst (pos left own) own.length)) (amount left (rd own (wkFirst (neg left own) own.length)) (rd own (wkFirst (pos left own) own.length)))])
       else none)
    else none
def outer : Nat → List (List Int) → List Int → List P → Option (List P)
  | _, [], _, out => some out
  | k, g :: gs, left, out => (inner k g left out).bind fun s => outer k gs s.1 s.2
/-- The parties with nets other than 0, of the first n. -/
def parts (l : List Int) : Nat → List Int
  | 0 => []
  | n + 1 => if (rd l (n : Int) != 0) = true then parts l n ++ [(n : Int)] else parts l n
theorem parts_len (l : List Int) (n : Nat) : (parts l n).length ≤ n := by
  induction n with
  | zero => exact Nat.le_refl _
  | succ n ih =>
    unfold parts
    split
    · rw [List.length_append, List.length_singleton]; omega
    · omega
theorem first_lt (p : Nat → Bool) (n : Nat) : wkFirst p n < (n : Int) := by
  unfold wkFirst
  cases h : (List.range n).find? p with
  | none => simp only; omega
  | some j =>
    have := List.mem_of_find?_eq_some h
    simp only
    have := List.mem_range.1 this
    omega
theorem fits_at {left own : List Int} (h : fits left own = true) {j : Nat} (hj : j < own.length) : 0 ≤ rd own (j : Int) ∧ rd own (j : Int) < (left.length : Int) := by
  have := List.all_eq_true.1 h (rd own (j : Int)) (by unfold rd; rw [Int.toNat_natCast, getD_lt hj]; exact List.getElem_mem hj)
  simpa using this
section
variable {A : Option Addr} {c gx : Nat} {left : List Int} {W : World}
theorem clo1 (x : Int) (hx : W.cell? ⟨gx, 0, none⟩ = some (.slice A left.length c)) (hC : Kd.C (Kd.int .i64) W A left.length left) (h0 : 0 ≤ x) (h1 : x < (left.length : Int)) :
    Calls Try.prog 27 #[.int .i64 x, .pointer (some ⟨gx, 0, none⟩)] W fun e W' => e = .returned (.bool (decide (rd left x < 0))) ∧ W = W' := by
  obtain ⟨ad, rfl, y⟩ := Kd.at_int hC x h0 h1
  have h0' : decide (0 ≤ x) = true := decide_eq_true h0
  have h1' : decide (x < (left.length : Int)) = true := decide_eq_true h1
  clear hC
  go_enter Try.func27, Try.ntmps27
  go_wp2
  go_ret
  exact ⟨rfl, rfl⟩
theorem clo2 (x : Int) (hx : W.cell? ⟨gx, 0, none⟩ = some (.slice A left.length c)) (hC : Kd.C (Kd.int .i64) W A left.length left) (h0 : 0 ≤ x) (h1 : x < (left.length : Int)) :
    Calls Try.prog 28 #[.int .i64 x, .pointer (some ⟨gx, 0, none⟩)] W fun e W' => e = .returned (.bool (decide (0 < rd left x))) ∧ W = W' := by
  obtain ⟨ad, rfl, y⟩ := Kd.at_int hC x h0 h1
  have h0' : decide (0 ≤ x) = true := decide_eq_true h0
  have h1' : decide (x < (left.length : Int)) = true := decide_eq_true h1
  clear hC
  go_enter Try.func28, Try.ntmps28
  go_wp2
  go_ret
  exact ⟨rfl, rfl⟩
end
set_option maxHeartbeats 2000000 in
/-- slices.IndexFunc at []int, where the predicate turns nothing. -/
theorem indexQ (A : Option Addr) (n c : Nat) (V : Nat → Int) (p : Nat → Bool) (g : Nat) (cb : Array Value) (w : World) (eg : ∀ args w, (callFunc g args).run Try.prog w = .ok (.enter g args) w) (hn : n ≤ 9223372036854775807)
    (hc : 0 < n → ∃ ad, A = some ad ∧ ∀ j, j < n → w.cell? (ad.add j) = some (.int .i64 (V j)))
    (hp : ∀ j, j < n → Calls Try.prog g (#[.int .i64 (V j)] ++ cb) w fun e W' => e = .returned (.bool (p j)) ∧ w = W') :
    Calls Try.prog 26 #[.slice A n c, .func (.func g) #[] cb] w fun e w' => e = .returned (.int .i64 (wkFirst p n)) ∧ w = w' := by
  have HP := Aside0.mk hp
  have HC := Aside0.mk hc
  clear hp hc
  go_enter Try.func26, Try.ntmps26
  go_wp2
  go_loopg [5, 8] n (fun gg _ s8 wr => ∃ kk : Nat, kk ≤ n ∧ n - kk ≤ gg ∧ s8 = .int .i64 kk ∧ Aside0 (w = wr) ∧ Aside0 (∀ j, j < kk → p j = false))
  case atStart => exact ⟨0, Nat.zero_le _, by omega, rfl, ⟨rfl⟩, ⟨fun j hj => absurd hj (Nat.not_lt_zero _)⟩⟩
  case round =>
    obtain ⟨kk, hkk, hg, rfl, HB, HA⟩ := hrel
    obtain rfl := HB.out
    by_cases hlt : kk < n
    · have hltz : (kk : Int) < (n : Int) := by omega
      obtain ⟨ad, rfl, hcell⟩ := HC.out (by omega)
      have x0 := hcell kk hlt
      clear hcell
      have hcall := HP.out kk hlt
      have Hcall := Aside0.mk hcall
      clear hcall
      cases hq : p kk with
      | true =>
        have Hq := Lib.hid hq
        rw [hq] at Hcall
        clear hq
        go_wp2_with (go_at_fn g; refine Hcall.out.mono ?_; rintro e w' ⟨rfl, rfl⟩)
        go_ret
        exact ⟨ret_int (wkFirst_hit hlt Hq.out HA.out), rfl⟩
      | false =>
        have Hq := Lib.hid hq
        rw [hq] at Hcall
        clear hq
        go_wp2_with (go_at_fn g; refine Hcall.out.mono ?_; rintro e w' ⟨rfl, rfl⟩)
        go_roundg (n - (kk + 1))
        case measure => omega
        case rel =>
          refine ⟨kk + 1, by omega, by omega, by go_num, ⟨rfl⟩, ⟨fun j hj => ?_⟩⟩
          by_cases e : j = kk
          · rw [e]; exact Hq.out
          · exact HA.out j (by omega)
    · have hltz : ¬ (kk : Int) < (n : Int) := by omega
      obtain rfl : kk = n := by omega
      go_wp2
      go_ret
      exact ⟨ret_int (wkFirst_miss HA.out), rfl⟩

theorem reletC {P : Program} {c : Code} {Q : Exit → Act → World → Prop} {a : Act} {W : World} (F : World → Prop) (hF : F W) (h : ∀ w', F w' → Code.wp P c Q a w') : Code.wp P c Q a W := h W hF
theorem reletE {K : Act → World → Prop} {Q : Exit → Act → World → Prop} {e : Exit} {a : Act} {W : World} (F : World → Prop) (hF : F W) (h : ∀ w', F w' → Exit.then K Q e a w') : Exit.then K Q e a W := h W hF
theorem reletI {n : Nat} {K : Exit → Act → World → Prop} {e : Exit} {a : Act} {W : World} (F : World → Prop) (hF : F W) (h : ∀ w', F w' → Exit.inBlock n K e a w') : Exit.inBlock n K e a W := h W hF
/-- Ahead of the groups: what is left, its box, the parties so far; no payment. -/
structure Pre (w W : World) (gx g7 c7 : Nat) (l0 : List Int) (v6 : Value) (ps : List Int) (v7 : Value) : Prop where
  b : Below w.heap.size w W
  x : W.heap[gx]? = some (.cells #[.slice (some ⟨g7, 0, none⟩) l0.length c7] 22 (0, 0))
  l : Kd.R (Kd.int .i64) 2 W w.heap.size (fun _ => True) (.slice (some ⟨g7, 0, none⟩) l0.length c7) l0
  p : Kd.R (Kd.int .i64) 3 W w.heap.size (fun _ => True) v6 ps
  o : Kd.R k39 39 W w.heap.size (fun _ => True) v7 ([] : List P)
/-- Then: the groups lie in blocks from B5 to B6, what is left below them, the payments in none of them. -/
structure St (w W : World) (gx g7 c7 n : Nat) (Ag : Option Addr) (gs : List (List Int)) (B5 B6 : Nat) (left : List Int) (v7 : Value) (out : List P) : Prop where
  b : Below w.heap.size w W
  x : W.heap[gx]? = some (.cells #[.slice (some ⟨g7, 0, none⟩) n c7] 22 (0, 0))
  l : Kd.R (Kd.int .i64) 2 W w.heap.size (fun k => k < B5) (.slice (some ⟨g7, 0, none⟩) n c7) left
  o : Kd.R k39 39 W w.heap.size (fun k => ¬ (B5 ≤ k ∧ k < B6)) v7 out
  g : Kd.F (Kd.slice 3 (Kd.int .i64)) W (fun k => B5 ≤ k ∧ k < B6) Ag gs.length gs
  sz : B6 ≤ W.heap.size
section
variable {w W W1 : World} {gx g7 c7 n : Nat} {Ag : Option Addr} {gs : List (List Int)} {B5 B6 : Nat} {left : List Int} {v6 v7 v1 : Value} {out out1 : List P} {l0 ps ps1 : List Int}
theorem ne_row {α : Type} {d : Kd α} {e t base g : Nat} {ok : Nat → Prop} {v : Value} {xs : List α} {cells : Array Value} (h : d.R e W base ok v xs) (hb : W.heap[g]? = some (.cells cells t (0, 0))) (ht : e ≠ t) : some g ≠ v.ownBlock := fun he => by
  obtain ⟨c, hc⟩ := Kd.R_typed h g he.symm
  rw [hb] at hc
  injection hc with hc
  injection hc with _ hc
  exact ht hc.symm
theorem Pre.below (h : Pre w W gx g7 c7 l0 v6 ps v7) (hb : Below W.heap.size W W1) : Pre w W1 gx g7 c7 l0 v6 ps v7 := ⟨below_then h.b h.b.size hb, blk_below h.x hb, Kd.R_below h.l hb, Kd.R_below h.p hb, Kd.R_below h.o hb⟩
theorem Pre.app (h : Pre w W gx g7 c7 l0 v6 ps v7) (hp : Kd.R (Kd.int .i64) 3 W1 w.heap.size (fun _ => True) v1 ps1) (hb : Below w.heap.size w W1) (hg : W.grownBy W1 v6.ownBlock) : Pre w W1 gx g7 c7 l0 v1 ps1 v7 :=
  ⟨hb, (hg.block gx (blk_lt h.x) (ne_row h.p h.x (by decide))).trans h.x, Kd.R_over' h.l (Kd.R_typed h.p) (by decide) hg, hp, Kd.R_over' h.o (Kd.R_typed h.p) (by decide) hg⟩
theorem Pre.st {A : Option Addr} (h : Pre w W gx g7 c7 l0 v6 ps v7) (hb : Below W.heap.size W W1) (hF : Kd.F (Kd.slice 3 (Kd.int .i64)) W1 (fun k => W.heap.size ≤ k) A gs.length gs) : St w W1 gx g7 c7 l0.length A gs W.heap.size W1.heap.size l0 v7 [] :=
  ⟨below_then h.b h.b.size hb, blk_below h.x hb, Kd.R_mono (Kd.R_below (Kd.R_bound h.l) hb) (fun _ hk => hk.2.2.1), Kd.R_mono (Kd.R_below (Kd.R_bound h.o) hb) (fun _ hk h2 => by have := hk.2.2.1; omega), Kd.F_bound hF, Nat.le_refl _⟩
theorem St.below (h : St w W gx g7 c7 n Ag gs B5 B6 left v7 out) (hb : Below W.heap.size W W1) : St w W1 gx g7 c7 n Ag gs B5 B6 left v7 out :=
  ⟨below_then h.b h.b.size hb, blk_below h.x hb, Kd.R_below h.l hb, Kd.R_below h.o hb, Kd.F_below h.g hb, Nat.le_trans h.sz hb.size⟩
theorem St.drewN (h : St w W gx g7 c7 n Ag gs B5 B6 left v7 out) (m : Nat) : St w (W.drewN m) gx g7 c7 n Ag gs B5 B6 left v7 out := h.below (pw_below_drewN (Below.refl _ _) m)
theorem St.len (h : St w W gx g7 c7 n Ag gs B5 B6 left v7 out) : n = left.length := (Kd.R_reads' h.l).1
theorem St.at_g (h : St w W gx g7 c7 n Ag gs B5 B6 left v7 out) : g7 < B5 := h.l.1 g7 rfl
theorem St.blk (h : St w W gx g7 c7 n Ag gs B5 B6 left v7 out) : ∃ cells, W.heap[g7]? = some (.cells cells 2 (0, 0)) := Kd.R_typed h.l g7 rfl
theorem St.gx_ne (h : St w W gx g7 c7 n Ag gs B5 B6 left v7 out) : gx ≠ g7 := fun e => ne_row h.l h.x (by decide) (by rw [e]; rfl)
theorem St.put (h : St w W gx g7 c7 n Ag gs B5 B6 left v7 out) (f t x y : Int) : St w (((W.setCell ⟨g7, f.toNat, none⟩ (.int .i64 x)).setCell ⟨g7, t.toNat, none⟩ (.int .i64 y)).drew) gx g7 c7 n Ag gs B5 B6 ((left.set f.toNat x).set t.toNat y) v7 out := by
  obtain ⟨cells, hc⟩ := h.blk
  have hg := h.at_g
  have hb := Kd.R_base h.l g7 rfl
  refine ⟨below_drew ((h.b.setCell hb _).setCell hb _), blk_far (blk_far h.x h.gx_ne _) h.gx_ne _, Kd.R_drew (Kd.R_putn (Kd.R_putn h.l f x) t y), ?_, ?_, ?_⟩
  · exact Kd.R_drew (Kd.R_mono (Kd.R_far (Kd.R_far (Kd.R_types h.o hc (by decide)) (fun _ hk => hk.2) _) (fun _ hk => hk.2) _) (fun _ hk => hk.1))
  · exact Kd.F_drew (Kd.F_far (Kd.F_far h.g (fun k hk => by show k ≠ g7; omega) _) (fun k hk => by show k ≠ g7; omega) _)
  · show B6 ≤ ((W.setCell _ _).setCell _ _).heap.size
    simpa [World.setCell] using h.sz
theorem St.app (h : St w W gx g7 c7 n Ag gs B5 B6 left v7 out) (ho : Kd.R k39 39 W1 w.heap.size (fun k => ¬ (B5 ≤ k ∧ k < B6)) v1 out1) (hb : Below w.heap.size w W1) (hg : W.grownBy W1 v7.ownBlock) : St w W1 gx g7 c7 n Ag gs B5 B6 left v1 out1 :=
  ⟨hb, (hg.block gx (blk_lt h.x) (ne_row h.o h.x (by decide))).trans h.x, Kd.R_over' h.l (Kd.R_typed h.o) (by decide) hg, ho, Kd.F_grown h.g hg (fun k hk e => h.o.1 k e.symm hk), Nat.le_trans h.sz hg.size⟩
theorem St.cx (h : St w W gx g7 c7 n Ag gs B5 B6 left v7 out) : W.cell? ⟨gx, 0, none⟩ = some (.slice (some ⟨g7, 0, none⟩) left.length c7) := by rw [← h.len]; exact (blk_cell h.x 0).trans rfl
theorem St.cl (h : St w W gx g7 c7 n Ag gs B5 B6 left v7 out) : Kd.C (Kd.int .i64) W (some ⟨g7, 0, none⟩) left.length left := (Kd.R_reads' h.l).2.2
/-- A group's row. -/
theorem St.own (h : St w W gx g7 c7 n Ag gs B5 B6 left v7 out) {i : Nat} (hi : i < gs.length) : ∃ ad A0 c0, Ag = some ad ∧ W.cell? (ad.add i) = some (.slice A0 (gs.getD i []).length c0) ∧ (gs.getD i []).length ≤ c0 ∧ Kd.F (Kd.int .i64) W (fun k => B5 ≤ k ∧ k < B6) A0 (gs.getD i []).length (gs.getD i []) := by
  obtain ⟨ad, c, rfl, hcl, hK, hcc, _⟩ := Kd.F_get h.g [] (i : Int) (by omega) (by omega)
  rw [Int.toNat_natCast] at hK hcc
  obtain ⟨A0, c0, rfl, hl, _⟩ := Kd.FK_now hK
  have hc0 := hcc 0 _ rfl
  rw [Nat.add_zero, show (Kd.slice 3 (Kd.int .i64)).sz = 1 from rfl, Nat.mul_one] at hc0
  refine ⟨ad, A0, c0, rfl, hc0, hl, fun W' hW => ?_⟩
  obtain ⟨A1, c1, e, _, hC⟩ := hK W' (fun k hk hlt => hW k hk hlt)
  injection e with e _
  injection e with e _ _
  rw [e]
  exact hC
end
section
variable {w W : World} {gx g7 c7 n : Nat} {Ag A0 : Option Addr} {c0 : Nat} {gs : List (List Int)} {B5 B6 : Nat} {left own : List Int} {v7 : Value} {out : List P}
theorem cells_own (hC : Kd.C (Kd.int .i64) W A0 own.length own) : 0 < own.length → ∃ ad, A0 = some ad ∧ ∀ j, j < own.length → W.cell? (ad.add j) = some (.int .i64 (rd own (j : Int))) := by
  intro h
  obtain ⟨ad, rfl, _⟩ := Kd.at_int hC 0 (Int.le_refl _) (by omega)
  refine ⟨ad, rfl, fun j hj => ?_⟩
  obtain ⟨ad', e, x⟩ := Kd.at_int hC (j : Int) (by omega) (by omega)
  injection e with e
  subst e
  rwa [Int.toNat_natCast] at x
theorem idx1 (h : St w W gx g7 c7 n Ag gs B5 B6 left v7 out) (hC : Kd.C (Kd.int .i64) W A0 own.length own) (hf : fits left own = true) : Calls Try.prog 26 #[.slice A0 own.length c0, .func (.func 27) #[] #[.pointer (some ⟨gx, 0, none⟩)]] W fun e w' => e = .returned (.int .i64 (wkFirst (neg left own) own.length)) ∧ W = w' :=
  indexQ A0 own.length c0 (fun j => rd own (j : Int)) (neg left own) _ _ W (enters_of Try.func27 (by kernel_rfl) rfl) hC.2.1 (cells_own hC) (fun j hj => clo1 _ h.cx h.cl (fits_at hf hj).1 (fits_at hf hj).2)
theorem idx2 (h : St w W gx g7 c7 n Ag gs B5 B6 left v7 out) (hC : Kd.C (Kd.int .i64) W A0 own.length own) (hf : fits left own = true) : Calls Try.prog 26 #[.slice A0 own.length c0, .func (.func 28) #[] #[.pointer (some ⟨gx, 0, none⟩)]] W fun e w' => e = .returned (.int .i64 (wkFirst (pos left own) own.length)) ∧ W = w' :=
  indexQ A0 own.length c0 (fun j => rd own (j : Int)) (pos left own) _ _ W (enters_of Try.func28 (by kernel_rfl) rfl) hC.2.1 (cells_own hC) (fun j hj => clo2 _ h.cx h.cl (fits_at hf hj).1 (fits_at hf hj).2)
end
end Few
open Few
def impl_FewestPayments.f (k : Nat) (l0 : List Int) : Option (List Few.P × Int) :=
  (impl_netsCode.f k l0).bind fun c => if c = 0 then (if 1 ≤ l0.length ∧ l0.length ≤ 1000 then (impl_groupsOf.f k l0 (parts l0 l0.length)).bind fun gs => (outer k gs l0 []).bind fun o => some (o, 0) else none) else some ([], c)
theorem Few.inner_mono : ∀ (k : Nat) (own left : List Int) (out : List Few.P), LeO (inner k own left out) (inner (k + 1) own left out)
  | 0, _, _, _ => fun r h => by simp [inner] at h
  | k + 1, own, left, out => by
    have ih := Few.inner_mono k
    rw [inner, inner]
    repeat' first
      | exact LeO.refl _
      | exact LeO.none _
      | (refine LeO.ite ?_ ?_)
      | exact ih _ _ _
theorem Few.outer_mono (k : Nat) : ∀ (gs : List (List Int)) (left : List Int) (out : List Few.P), LeO (outer k gs left out) (outer (k + 1) gs left out)
  | [], _, _ => fun r h => by simpa [outer] using h
  | g :: gs, left, out => by
    rw [outer, outer]
    exact LeO.bind (Few.inner_mono k g left out) (fun s => Few.outer_mono k gs s.1 s.2)
theorem impl_FewestPayments.mono (a0 : List Int) (k : Nat) : LeO (impl_FewestPayments.f k a0) (impl_FewestPayments.f (k + 1) a0) := by
  unfold impl_FewestPayments.f
  refine LeO.bind (impl_netsCode.mono a0 k) (fun c => LeO.ite (LeO.ite (LeO.bind (impl_groupsOf.mono _ _ k) (fun gs => LeO.bind (Few.outer_mono k gs _ _) (fun o => LeO.refl _))) (LeO.refl _)) (LeO.refl _))
set_option maxHeartbeats 16000000 in
set_option maxRecDepth 100000 in
theorem impl_FewestPayments.calls (k : Nat) (A0 : Option Addr) (c0 : Nat) (l0 : List Int) (r1 : List Few.P) (r2 : Int) (w : World) (hr0 : Kd.C (Kd.int .i64) w A0 l0.length l0) (hc0 : l0.length ≤ c0) (h : impl_FewestPayments.f k l0 = some (r1, r2)) :
    Calls Try.prog 7 #[.slice A0 l0.length c0] w fun e w' => ∃ v0_ : Value, e = .returned (.tuple #[v0_, .int .i64 r2]) ∧ Kd.R k39 39 w' w.heap.size (fun _ => True) v0_ r1 ∧ Below w.heap.size w w' := by
  unfold impl_FewestPayments.f at h
  obtain ⟨c, hc, h⟩ := Option.bind_eq_some_iff.mp h
  have HR0 := Aside0.mk hr0
  have HN := Lib.hid hc
  clear hr0 hc
  by_cases hz : c = 0
  case neg =>
    rw [if_neg hz] at h
    obtain ⟨rfl, rfl⟩ := Prod.mk.inj (Option.some.inj h)
    clear h
    have hz1 : (c != 0) = true := bne_iff_ne.mpr hz
    have hz2 : (c == 0) = false := beq_eq_false_iff_ne.mpr hz
    clear hz
    go_enter Try.func7, Try.ntmps7
    go_wp2_with (go_at_call 23; refine (impl_netsCode.calls k A0 c0 l0 c _ HR0.out hc0 HN.out).mono ?_; rintro e w1 ⟨rfl, hb⟩)
    go_ret2
    exact ⟨_, rfl, Kd.R_nil _ _ _ _ _, hb⟩
  rw [if_pos hz] at h
  subst hz
  by_cases hlim : 1 ≤ l0.length ∧ l0.length ≤ 1000
  case neg => rw [if_neg hlim] at h; cases h
  rw [if_pos hlim] at h
  obtain ⟨gs, hgs, h⟩ := Option.bind_eq_some_iff.mp h
  obtain ⟨o, ho, h⟩ := Option.bind_eq_some_iff.mp h
  obtain ⟨rfl, rfl⟩ := Prod.mk.inj (Option.some.inj h)
  have HG := Lib.hid hgs
  have HO := Lib.hid ho
  have HL := Lib.hid hlim
  have HCL := Lib.hid (show cloneI64.f l0 = some l0 by unfold cloneI64.f; rw [if_pos (by omega)])
  clear h hgs ho hlim
  go_enter Try.func7, Try.ntmps7
  go_wp2_with (first
    | (go_at_call 23; (refine (impl_netsCode.calls k A0 c0 l0 0 _ HR0.out hc0 HN.out).mono ?_; rintro e w1 ⟨rfl, hb⟩; have B1 := Aside0.mk hb; clear hb))
    | (go_at_call 24; (refine (cloneI64.calls A0 c0 l0 l0 _ (Kd.C_below HR0.out B1.out) hc0 HCL.out).mono ?_; rintro e w2 ⟨v7, rfl, hR, hb⟩; have R7 := Aside0.mk (Kd.R_lower hR B1.out.size); have B2 := Aside0.mk (below_then B1.out B1.out.size hb); clear hR hb B1; obtain ⟨g7, c7, rfl, -, -, -⟩ := Kd.R_form R7.out (by have := HL.out; omega)))
    | ((with_reducible refine gate_dst (N := 23) rfl ?_); refine Kd.R_lit (Kd.int .i64) _ 3 ?hg (N := 23) ?hd (xs := ([] : List Int)) (inner := []) (ok := fun _ => True) (okp := fun _ => True) ?hr ?hp (fun _ hk => hk) trivial (Below.refl _ _) (Nat.le_refl _) (by simp) ?_; (case hd => rfl); (case hg => rfl); (case hr => first | (go_simp; done) | (go_simp; rfl)); (case hp => exact (Reps.none _ _)); intro v6 w3 hp3 hb3 hg_ hnew_; clear hg_ hnew_; have P3 := Aside0.mk (Kd.R_lower hp3 B2.out.size); have R8 := Aside0.mk (Kd.R_below R7.out hb3); have B3 := Aside0.mk (below_then B2.out B2.out.size hb3); clear hp3 hb3 B2 R7)
    | ((with_reducible refine gate_dst (N := 24) rfl ?_); refine Kd.R_lit k39 _ 39 ?hg (N := 24) ?hd (xs := ([] : List Few.P)) (inner := []) (ok := fun _ => True) (okp := fun _ => True) ?hr ?hp (fun _ hk => hk) trivial (Below.refl _ _) (Nat.le_refl _) (by simp) ?_; (case hd => rfl); (case hg => rfl); (case hr => first | (go_simp; done) | (go_simp; rfl)); (case hp => exact (Reps.none _ _)); intro v5 w4 ho4 hb4 hg_ hnew_; clear hg_ hnew_; have O4 := Aside0.mk (Kd.R_lower ho4 B3.out.size); have P4 := Aside0.mk (Kd.R_below P3.out hb4); have R9 := Aside0.mk (Kd.R_below R8.out hb4); have B4 := Aside0.mk (below_then B3.out B3.out.size hb4); clear ho4 hb4 B3 P3 R8))
  have hpre : Pre w (w4.alloc (.cells #[.slice (some ⟨g7, 0, none⟩) l0.length c7] 22)) w4.heap.size g7 c7 l0 v6 (parts l0 0) v5 := ⟨below_alloc B4.out _, blk_new w4 _, Kd.R_alloc R9.out _, Kd.R_alloc P4.out _, Kd.R_alloc O4.out _⟩
  have HP := Aside0.mk hpre
  clear hpre O4 P4 R9 B4 HN HCL
  go_loopg [6, 27] l0.length (fun gg v6 v27 wr => ∃ kk : Nat, kk ≤ l0.length ∧ l0.length - kk ≤ gg ∧ v27 = .int .i64 kk ∧ Aside0 (Pre w wr w4.heap.size g7 c7 l0 v6 (parts l0 kk) v5))
  case atStart => exact ⟨0, Nat.zero_le _, by omega, rfl, HP⟩
  case round =>
    clear HP
    obtain ⟨kk, hkk, hgg, rfl, HP⟩ := hrel
    by_cases hlt : kk < l0.length
    · have hlt' : (kk : Int) < (l0.length : Int) := by omega
      obtain ⟨ad, rfl, x0⟩ := Kd.at_int HR0.out (kk : Int) (by omega) (by omega)
      rw [Int.toNat_natCast] at x0
      replace x0 := pw_cell_below HP.out.b x0
      have hpl := parts_len l0 kk
      have hl1 := HL.out.2
      have hp1 : parts l0 (kk + 1) = if (rd l0 (kk : Int) != 0) = true then parts l0 kk ++ [(kk : Int)] else parts l0 kk := rfl
      have HP1 := Lib.hid hp1
      clear hp1
      cases hb : (rd l0 (kk : Int) != 0)
      · rw [hb, if_neg Bool.false_ne_true] at HP1
        go_wp2
        go_roundg (l0.length - (kk + 1))
        case measure => omega
        case rel => exact ⟨kk + 1, by omega, by omega, by go_num, by rw [HP1.out]; exact HP⟩
      · rw [hb, if_pos rfl] at HP1
        go_wp2_with (((with_reducible refine gate_builtin (b := .append) (xs := #[.tmp 34, .tmp 36]) rfl ?_); at_builtin; refine Kd.R_append (Kd.int .i64) (w0 := w) w.heap.size rfl (.tmp 34) (.tmp 36) 48 3 (.int .i64 0) 8 rfl Try.underlying48 info3 rfl (by decide) (by omega) u6 (parts l0 kk) (kk : Int) [.int .i64 (kk : Int)] (fun _ => True) (fun _ => False) rfl rfl ?aP (fun _ hk => hk.elim) ?aF ?aO ?aB ?aS ?aL ?_; (case aP => exact rfl); (case aB => exact HP.out.b); (case aF => exact (fun _ _ => trivial)); (case aO => exact HP.out.p); (case aS => exact HP.out.b.size); (case aL => have := HL.out; omega); intro v1 w1 ho hb_ hg hat; clear hat; have HP2 := Aside0.mk (HP.out.app ho hb_ hg); clear HP ho hb_ hg))
        go_roundg (l0.length - (kk + 1))
        case measure => omega
        case rel => exact ⟨kk + 1, by omega, by omega, by go_num, by rw [HP1.out]; exact HP2⟩
    · have hlt' : ¬ (kk : Int) < (l0.length : Int) := by omega
      obtain rfl : kk = l0.length := by omega
      clear hlt hkk hgg
      obtain ⟨A6, c6, hv6⟩ := Kd.R_slice HP.out.p
      subst hv6
      have hl1 := HL.out.2
      have hpl := parts_len l0 l0.length
      go_wp2_with (go_at_call 25; (refine (impl_groupsOf.calls k A0 c0 l0 A6 c6 (parts l0 l0.length) gs _ (Kd.C_below HR0.out HP.out.b) hc0 (Kd.R_reads' HP.out.p).2.2 (Kd.R_reads' HP.out.p).2.1 HG.out).mono ?_; rintro e w6 ⟨⟨Ag, cg, rfl, hcg, hF⟩, hb⟩; have HS := Aside0.mk (HP.out.st hb hF); clear hF hb HP))
      generalize wr.heap.size = B5 at HS
      generalize w6.heap.size = B6 at HS
      clear hpl hl1 hlt'
      go_loopg [7, 43] gs.length (fun gg v7 v43 wr => ∃ (i : Nat) (left : List Int) (out : List Few.P), i ≤ gs.length ∧ gs.length - i ≤ gg ∧ v43 = .int .i64 i ∧ Aside0 (St w wr w4.heap.size g7 c7 l0.length Ag gs B5 B6 left v7 out) ∧ Hid (outer k (gs.drop i) left out = some o))
      case atStart => exact ⟨0, l0, [], Nat.zero_le _, by omega, rfl, HS, by rw [List.drop_zero]; exact HO⟩
      case round =>
        clear HS HO HG
        obtain ⟨i, left, out, hi, hgi, rfl, HS, HO⟩ := hrel
        by_cases hlt : i < gs.length
        · have hlt' : (i : Int) < (gs.length : Int) := by omega
          obtain ⟨ad, A1, c1, rfl, xg, hc1, hF1⟩ := HS.out.own hlt
          have H := HO.out
          clear HO
          rw [List.drop_eq_getElem_cons hlt] at H
          simp only [outer] at H
          rw [show gs[i] = gs.getD i [] from (getD_lt hlt _).symm] at H
          obtain ⟨⟨lf, of⟩, hin, hrest⟩ := Option.bind_eq_some_iff.mp H
          clear H
          generalize gs.getD i [] = own at xg hc1 hF1 hin
          have HIN := Lib.hid hin
          have HRE := Lib.hid hrest
          have HF1 := Aside0.mk hF1
          have HI := Lib.hid (And.intro hlt hgi)
          clear hin hrest hF1 hi hgi hlt
          go_wp2
          go_loopg [7] k (fun kq v7 wr => ∃ (l : List Int) (q : List Few.P), Aside0 (St w wr w4.heap.size g7 c7 l0.length (some ad) gs B5 B6 l v7 q) ∧ Aside0 (Kd.F (Kd.int .i64) wr (fun k => B5 ≤ k ∧ k < B6) A1 own.length own) ∧ Hid (inner kq own l q = some (lf, of)))
          case atStart => exact ⟨left, out, HS, HF1, HIN⟩
          case round =>
            clear HIN HS HF1 xg
            obtain ⟨l, q, HS, HF1, HIN⟩ := hrel
            cases gk with
            | zero => exact absurd HIN.out (by simp [inner])
            | succ k1 =>
              have H := HIN.out
              clear HIN
              simp only [inner] at H
              by_cases hfit : fits l own = true
              case neg => rw [if_neg hfit] at H; cases H
              rw [if_pos hfit] at H
              have hlt1 := first_lt (neg l own) own.length
              have hlt2 := first_lt (pos l own) own.length
              have I1 := Aside0.mk (fun (W : World) (v : Value) (hS : St w W w4.heap.size g7 c7 l0.length (some ad) gs B5 B6 l v q) (hC : Kd.C (Kd.int .i64) W A1 own.length own) => idx1 (c0 := c1) hS hC hfit)
              have I2 := Aside0.mk (fun (W : World) (v : Value) (hS : St w W w4.heap.size g7 c7 l0.length (some ad) gs B5 B6 l v q) (hC : Kd.C (Kd.int .i64) W A1 own.length own) => idx2 (c0 := c1) hS hC hfit)
              have HFIT := Aside0.mk hfit
              clear hfit
              generalize wkFirst (neg l own) own.length = i1 at I1 H hlt1
              generalize wkFirst (pos l own) own.length = i2 at I2 H hlt2
              by_cases hn1 : i1 < 0
              · rw [if_pos hn1] at H
                obtain ⟨rfl, rfl⟩ := Prod.mk.inj (Option.some.inj H)
                clear H hlt1 hlt2
                have hi_ := HI.out.1
                have hi2_ := HI.out.2
                have hl_ := (Kd.F_now HS.out.g).2.1
                go_wp2_with (go_at_call 26; (refine (I1.out _ _ HS.out (Kd.F_now HF1.out)).mono ?_; rintro e w' ⟨rfl, rfl⟩))
                go_roundg (gs.length - (i + 1))
                case measure => omega
                case rel => exact ⟨i + 1, l, q, by omega, by omega, by go_num, HS, HRE⟩
              · rw [if_neg hn1] at H
                by_cases hn2 : i2 < 0
                · rw [if_pos hn2] at H; cases H
                rw [if_neg hn2] at H
                by_cases hlo : q.length < 8796093022207
                case neg => rw [if_neg hlo] at H; cases H
                rw [if_pos hlo] at H
                have HLO := Lib.hid hlo
                have hf1 := fits_at HFIT.out (j := i1.toNat) (by omega)
                have hf2 := fits_at HFIT.out (j := i2.toNat) (by omega)
                rw [Int.toNat_of_nonneg (by omega)] at hf1 hf2
                obtain ⟨ad1, rfl, y1⟩ := Kd.at_int (Kd.F_now HF1.out) i1 (by omega) (by omega)
                obtain ⟨ad2, e2, y2⟩ := Kd.at_int (Kd.F_now HF1.out) i2 (by omega) (by omega)
                obtain rfl : ad1 = ad2 := (by injection e2)
                have d10 : decide (0 ≤ i1) = true := decide_eq_true (by omega)
                have d11 : decide (i1 < (own.length : Int)) = true := decide_eq_true (by omega)
                have e10 : 0 ≤ i1 := by omega
                have e11 : i1 < (own.length : Int) := by omega
                have e20 : 0 ≤ i2 := by omega
                have e21 : i2 < (own.length : Int) := by omega
                have d12 : decide (i1 < 0) = false := decide_eq_false (by omega)
                have d20 : decide (0 ≤ i2) = true := decide_eq_true (by omega)
                have d21 : decide (i2 < (own.length : Int)) = true := decide_eq_true (by omega)
                clear hlo e2 hlt1 hlt2 hn1 hn2 HFIT
                have HH := Lib.hid H
                clear H
                go_wp2_with (go_at_call 26; (refine (I1.out _ _ HS.out (Kd.F_now HF1.out)).mono ?_; rintro e w' ⟨rfl, rfl⟩))
                clear I1
                go_quiet ((go_at_call 26; exact Calls.quiet_of_same ((I2.out _ _ (HS.out.drewN _) (Kd.F_now (Kd.F_drewN HF1.out _))).mono (fun e w' ⟨he, hw⟩ => ⟨he, hw.symm⟩))))
                first
                  | refine Few.reletE (F := fun W => St w W w4.heap.size g7 c7 l0.length (some ad) gs B5 B6 l u7 q ∧ Kd.F (Kd.int .i64) W (fun k => B5 ≤ k ∧ k < B6) (some ad1) own.length own) ⟨HS.out.drewN _, Kd.F_drewN HF1.out _⟩ ?_
                  | refine Few.reletI (F := fun W => St w W w4.heap.size g7 c7 l0.length (some ad) gs B5 B6 l u7 q ∧ Kd.F (Kd.int .i64) W (fun k => B5 ≤ k ∧ k < B6) (some ad1) own.length own) ⟨HS.out.drewN _, Kd.F_drewN HF1.out _⟩ ?_
                  | refine Few.reletC (F := fun W => St w W w4.heap.size g7 c7 l0.length (some ad) gs B5 B6 l u7 q ∧ Kd.F (Kd.int .i64) W (fun k => B5 ≤ k ∧ k < B6) (some ad1) own.length own) ⟨HS.out.drewN _, Kd.F_drewN HF1.out _⟩ ?_
                rintro w2 ⟨hS, hF⟩
                clear HS HF1 I2 y1 y2 d10 d11 d12 d20 d21 e10 e11 e20 e21
                generalize rd own i1 = f at hf1 HH ⊢
                generalize rd own i2 = t at hf2 HH ⊢
                obtain ⟨z1, -⟩ := Kd.R_celln 0 hS.l f hf1.1 (by rw [hS.len]; exact hf1.2)
                obtain ⟨z2, -⟩ := Kd.R_celln 0 hS.l t hf2.1 (by rw [hS.len]; exact hf2.2)
                have zx := hS.cx
                have d10 : decide (0 ≤ f) = true := decide_eq_true hf1.1
                have d11 : decide (f < (l.length : Int)) = true := decide_eq_true hf1.2
                have d20 : decide (0 ≤ t) = true := decide_eq_true hf2.1
                have d21 : decide (t < (l.length : Int)) = true := decide_eq_true hf2.2
                have HS := Aside0.mk hS
                have HF1 := Aside0.mk hF
                obtain ⟨e10, e11⟩ := hf1
                obtain ⟨e20, e21⟩ := hf2
                clear hS hF
                go_wp2
                go_quiet (fail)
                have hA : amount l f t = (if rdOf 0 l t < wrap64 (-rdOf 0 l f) then rdOf 0 l t else wrap64 (-rdOf 0 l f)) := rfl
                rw [← hA]
                clear hA z1 z2 zx
                generalize amount l f t = a at HH ⊢
                first
                  | refine Few.reletE (F := fun W => St w W w4.heap.size g7 c7 l0.length (some ad) gs B5 B6 l u7 q ∧ Kd.F (Kd.int .i64) W (fun k => B5 ≤ k ∧ k < B6) (some ad1) own.length own) ⟨HS.out.drewN _, Kd.F_drewN HF1.out _⟩ ?_
                  | refine Few.reletI (F := fun W => St w W w4.heap.size g7 c7 l0.length (some ad) gs B5 B6 l u7 q ∧ Kd.F (Kd.int .i64) W (fun k => B5 ≤ k ∧ k < B6) (some ad1) own.length own) ⟨HS.out.drewN _, Kd.F_drewN HF1.out _⟩ ?_
                  | refine Few.reletC (F := fun W => St w W w4.heap.size g7 c7 l0.length (some ad) gs B5 B6 l u7 q ∧ Kd.F (Kd.int .i64) W (fun k => B5 ≤ k ∧ k < B6) (some ad1) own.length own) ⟨HS.out.drewN _, Kd.F_drewN HF1.out _⟩ ?_
                rintro w3 ⟨hS, hF⟩
                clear HS HF1
                obtain ⟨y0, z0⟩ := Kd.R_celln 0 hS.l f e10 (by rw [hS.len]; exact e11)
                obtain ⟨y1, z1⟩ := Kd.R_celln 0 hS.l t e20 (by rw [hS.len]; exact e21)
                have R5 := Kd.R_putn hS.l f (wrap64 (rdOf 0 l f + a))
                obtain ⟨y2, z2⟩ := Kd.R_celln 0 R5 t e20 (by rw [hS.len]; exact e21)
                have zx := hS.cx
                have zx2 := (World.cell?_setCell_other (w := w3) (a := ⟨g7, f.toNat, none⟩) (b := ⟨w4.heap.size, 0, none⟩) (v := .int .i64 (wrap64 (rdOf 0 l f + a))) (fun e => hS.gx_ne (congrArg Addr.block e).symm)).trans zx
                have HS := Aside0.mk hS
                have HF1 := Aside0.mk hF
                clear R5 hS hF
                go_wp2
                go_region
                clear y0 z0 y1 z1 y2 z2 zx zx2 d10 d11 d20 d21 e10 e11 e20 e21
                first
                  | refine Few.reletE (F := fun W => St w W w4.heap.size g7 c7 l0.length (some ad) gs B5 B6 (put l f t a) u7 q ∧ Kd.F (Kd.int .i64) W (fun k => B5 ≤ k ∧ k < B6) (some ad1) own.length own) ⟨HS.out.put f t _ _, Kd.F_drew (Kd.F_far (Kd.F_far HF1.out (fun k hk => by have := HS.out.at_g; show k ≠ g7; omega) _) (fun k hk => by have := HS.out.at_g; show k ≠ g7; omega) _)⟩ ?_
                  | refine Few.reletI (F := fun W => St w W w4.heap.size g7 c7 l0.length (some ad) gs B5 B6 (put l f t a) u7 q ∧ Kd.F (Kd.int .i64) W (fun k => B5 ≤ k ∧ k < B6) (some ad1) own.length own) ⟨HS.out.put f t _ _, Kd.F_drew (Kd.F_far (Kd.F_far HF1.out (fun k hk => by have := HS.out.at_g; show k ≠ g7; omega) _) (fun k hk => by have := HS.out.at_g; show k ≠ g7; omega) _)⟩ ?_
                  | refine Few.reletC (F := fun W => St w W w4.heap.size g7 c7 l0.length (some ad) gs B5 B6 (put l f t a) u7 q ∧ Kd.F (Kd.int .i64) W (fun k => B5 ≤ k ∧ k < B6) (some ad1) own.length own) ⟨HS.out.put f t _ _, Kd.F_drew (Kd.F_far (Kd.F_far HF1.out (fun k hk => by have := HS.out.at_g; show k ≠ g7; omega) _) (fun k hk => by have := HS.out.at_g; show k ≠ g7; omega) _)⟩ ?_
                rintro w5 ⟨hS, hF⟩
                have HS2 := Aside0.mk hS
                have HF2 := Aside0.mk hF
                clear hS hF HS HF1
                go_wp2_with (((with_reducible refine gate_builtin (b := .append) (xs := #[.tmp 90, .tmp 97]) rfl ?_); at_builtin; refine Kd.R_append k39 (w0 := w) w.heap.size rfl (.tmp 90) (.tmp 97) 23 39 (.agg #[(.int .i8 0), (.int .i8 0), (.int .i64 0)]) 16 rfl Try.underlying23 info39 rfl (by decide) (by omega) u7 q (pay f t a) [.int .i8 (IntKind.i8.wrap f), .int .i8 (IntKind.i8.wrap t), .int .i64 a] (fun k => ¬ (B5 ≤ k ∧ k < B6)) (fun _ => False) rfl rfl ?aP (fun _ hk => hk.elim) ?aF ?aO ?aB ?aS ?aL ?_; (case aP => exact k39_mkM _ _ _ (pay f t a)); (case aB => exact HS2.out.b); (case aF => exact fun k hk h2 => by have := HS2.out.sz; omega); (case aO => exact HS2.out.o); (case aS => exact HS2.out.b.size); (case aL => have := HLO.out; omega); intro v1 w1 ho hb_ hg hat; clear hat; have HS3 := Aside0.mk (HS2.out.app ho hb_ hg); have HF3 := Aside0.mk (Kd.F_grown HF2.out hg (fun k hk e => HS2.out.o.1 k e.symm hk)); clear ho hb_ hg HS2 HF2))
                go_roundg k1
                case measure => omega
                case rel => exact ⟨put l f t a, q ++ [pay f t a], HS3, HF3, HH⟩
        · have hlt' : ¬ (i : Int) < (gs.length : Int) := by omega
          obtain rfl : i = gs.length := by omega
          have H := HO.out
          rw [List.drop_length] at H
          simp only [outer] at H
          obtain rfl := Option.some.inj H
          clear H HO
          go_wp2
          go_ret2
          exact ⟨_, rfl, Kd.R_mono HS.out.o (fun _ _ => trivial), HS.out.b⟩
end Go.Proofs.Ytljkamjdpjaooaa.G
