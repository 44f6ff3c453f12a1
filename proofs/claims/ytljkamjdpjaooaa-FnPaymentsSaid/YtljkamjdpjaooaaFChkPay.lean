/- impl.CheckPayments, walked by hand: its round writes two places of a row in an open order. -/
import Derived.Test.YtljkamjdpjaooaaPl
import Derived.Test.YtljkamjdpjaooaaFAllW
import Derived.Test.YtljkamjdpjaooaaFCloneI64
import Derived.BigQuiet
import Derived.BigRegion
import Derived.ChangeAlike
import Derived.Test.YtljkamjdpjaooaaFLibPay
namespace Go.Proofs.Ytljkamjdpjaooaa.G
open Go.RowKit Go.Proofs.YtljkamjdpjaooaaW.PrintWords Go.Proofs.YtljkamjdpjaooaaW.PrintLast Go.Proofs.YtljkamjdpjaooaaW.PrintMore
attribute [local go_sem] max2_int min2_int max_two min_two max_three min_three max_four min_four   -- for this text's walks alone
set_option linter.unusedVariables false
set_option linter.unusedSimpArgs false

open Go.Proofs.Ytljkamjdpjaooaa.Wk Go.Proofs.Ytljkamjdpjaooaa.Pl
namespace ChkPay
abbrev P := S39
abbrev RI (W : World) (base : Nat) (v : Value) (xs : List Int) : Prop := Kd.R (Kd.int .i64) 2 W base (fun _ => True) v xs
/-- A payment that cannot be. -/
def bad (n : Int) (x : P) : Bool := !(inB (wrap64 x.f0) 0 (wrap64 (n - 1))) || !(inB (wrap64 x.f1) 0 (wrap64 (n - 1))) || x.f0 == x.f1 || !(inB x.f2 1 1000000000)
/-- What is left behind a payment. -/
def put (l : List Int) (x : P) : List Int := (l.set x.f0.toNat (wrap64 (rd l x.f0 + x.f2))).set x.f1.toNat (wrap64 (rd l x.f1 - x.f2))
theorem put_length (l : List Int) (x : P) : (put l x).length = l.length := by simp [put]
/-- What is left behind all payments from place i on; nothing where one cannot be. -/
def go (n : Int) (l1 : List P) : Nat → Nat → List Int → Option (List Int)
  | 0, _, l => some l
  | d + 1, i, l => if bad n (l1.getD i z39) = true then none else go n l1 d (i + 1) (put l (l1.getD i z39))
def fin : Option (List Int) → Bool × Int | none => (false, 0) | some r => (allB r 0 0, 0)
theorem isParty_any (n x : Int) (w : World) : Calls Try.prog 33 #[.int .i64 n, .int .i64 x] w fun e w' => e = .returned (.bool (inB x 0 (wrap64 (n - 1)))) ∧ w = w' := by
  go_enter Try.func33, Try.ntmps33
  go_wp2_with (go_at_call 34; refine (within_any _ _ _ _).mono ?_; rintro e w' ⟨rfl, rfl⟩)
  go_ret
  exact ⟨rfl, rfl⟩
theorem reletC {P : Program} {c : Code} {Q : Exit → Act → World → Prop} {a : Act} {W : World} (F : World → Prop) (hF : F W) (h : ∀ w', F w' → Code.wp P c Q a w') : Code.wp P c Q a W := h W hF
theorem reletE {K : Act → World → Prop} {Q : Exit → Act → World → Prop} {e : Exit} {a : Act} {W : World} (F : World → Prop) (hF : F W) (h : ∀ w', F w' → Exit.then K Q e a w') : Exit.then K Q e a W := h W hF
theorem reletI {n : Nat} {K : Exit → Act → World → Prop} {e : Exit} {a : Act} {W : World} (F : World → Prop) (hF : F W) (h : ∀ w', F w' → Exit.inBlock n K e a w') : Exit.inBlock n K e a W := h W hF
theorem below_two {B : Nat} {w W : World} (h : Below B w W) {g i j : Nat} (hg : B ≤ g) (u v : Value) : Below B w (((W.setCell ⟨g, i, none⟩ u).setCell ⟨g, j, none⟩ v).drew) := below_drew ((h.setCell hg _).setCell hg _)
end ChkPay
open ChkPay Pay
def impl_CheckPayments.f (l0 : List Int) (l1 : List P) : Option (Bool × Int) :=
  if (l1.all fun x => inB x.f0 (-128) 127 && inB x.f1 (-128) 127) = true ∧ l0.length ≤ 17592186044416 then some (if netsC l0 = 0 then (if l1.length > 80 then (false, 3) else fin (go (l0.length : Int) l1 l1.length 0 l0)) else (false, netsC l0)) else none
set_option maxHeartbeats 8000000 in
set_option maxRecDepth 100000 in
theorem impl_CheckPayments.calls (A0 : Option Addr) (c0 : Nat) (l0 : List Int) (A1 : Option Addr) (c1 : Nat) (l1 : List P) (r1 : Bool) (r2 : Int) (w : World) (hr0 : Kd.C (Kd.int .i64) w A0 l0.length l0) (hc0 : l0.length ≤ c0) (hr1 : Kd.C k39 w A1 l1.length l1) (hc1 : l1.length ≤ c1) (h : impl_CheckPayments.f l0 l1 = some (r1, r2)) :
    Calls Try.prog 15 #[.slice A0 l0.length c0, .slice A1 l1.length c1] w fun e w' => e = .returned (.tuple #[.bool r1, .int .i64 r2]) ∧ Below w.heap.size w w' := by
  unfold impl_CheckPayments.f at h
  by_cases hg : (l1.all fun x => inB x.f0 (-128) 127 && inB x.f1 (-128) 127) = true ∧ l0.length ≤ 17592186044416
  case neg => rw [if_neg hg] at h; cases h
  rw [if_pos hg] at h
  obtain ⟨hb, hlim⟩ := hg
  have HBD := Aside0.mk hb
  clear hb
  replace h := Option.some.inj h
  have hbig : l1.length ≤ 9223372036854775807 := hr1.2.1
  have HR0 := Aside0.mk hr0
  have HR1 := Aside0.mk hr1
  obtain ⟨kn, hn⟩ := (netsCode_tells l0).rounds
  have HN := Lib.hid hn
  have HCL := Lib.hid (show cloneI64.f l0 = some l0 by unfold cloneI64.f; rw [if_pos hlim])
  clear hr0 hr1 hn
  obtain ⟨c, hc⟩ : ∃ c, c = netsC l0 := ⟨_, rfl⟩
  rw [← hc] at HN h
  by_cases hz : c = 0
  case neg =>
    rw [if_neg hz] at h
    obtain ⟨rfl, rfl⟩ := Prod.mk.inj h
    clear h hc
    have hz1 : (c != 0) = true := bne_iff_ne.mpr hz
    have hz2 : (c == 0) = false := beq_eq_false_iff_ne.mpr hz
    clear hz
    go_enter Try.func15, Try.ntmps15
    go_wp2_with (go_at_call 23; refine (impl_netsCode.calls kn A0 c0 l0 c _ HR0.out hc0 HN.out).mono ?_; rintro e w1 ⟨rfl, hb⟩)
    go_ret2
    exact ⟨rfl, hb⟩
  rw [if_pos hz] at h
  subst hz
  clear hc
  by_cases hl : l1.length > 80
  · rw [if_pos hl] at h
    obtain ⟨rfl, rfl⟩ := Prod.mk.inj h
    clear h
    have hl' : (80 : Int) < (l1.length : Int) := by omega
    go_enter Try.func15, Try.ntmps15
    go_wp2_with (go_at_call 23; refine (impl_netsCode.calls kn A0 c0 l0 0 _ HR0.out hc0 HN.out).mono ?_; rintro e w1 ⟨rfl, hb⟩)
    go_ret2
    exact ⟨rfl, hb⟩
  rw [if_neg hl] at h
  have hl' : ¬ (80 : Int) < (l1.length : Int) := by omega
  have HH := Lib.hid h
  clear h
  go_enter Try.func15, Try.ntmps15
  go_wp2_with (first | (go_at_call 23; (refine (impl_netsCode.calls kn A0 c0 l0 0 _ HR0.out hc0 HN.out).mono ?_; rintro e w1 ⟨rfl, hb⟩; have B1 := Aside0.mk hb; clear hb)) | (go_at_call 24; (refine (cloneI64.calls A0 c0 l0 l0 _ (Kd.C_below HR0.out B1.out) hc0 HCL.out).mono ?_; rintro e w2 ⟨v7, rfl, hR, hb⟩; have R7 := Aside0.mk (Kd.R_lower hR B1.out.size); have B2 := Aside0.mk (below_then B1.out B1.out.size hb); clear hR hb B1)))
  obtain ⟨A7, c7, rfl⟩ := Kd.R_slice R7.out
  clear HCL HN
  go_loopg [25] l1.length (fun gg v25 wr => ∃ (kk : Nat) (l : List Int), kk ≤ l1.length ∧ l1.length - kk ≤ gg ∧ v25 = .int .i64 kk ∧ l.length = l0.length ∧ Aside0 (RI wr w.heap.size (.slice A7 l0.length c7) l) ∧ Aside0 (Below w.heap.size w wr) ∧ Hid (fin (go (l0.length : Int) l1 (l1.length - kk) kk l) = (r1, r2)))
  case atStart => exact ⟨0, l0, Nat.zero_le _, by omega, rfl, rfl, R7, B2, HH⟩
  case round =>
    clear HH R7 B2
    obtain ⟨kk, l, hk, hgg, rfl, hll, R7, B2, HH⟩ := hrel
    by_cases hlt : kk < l1.length
    · have hlt' : (kk : Int) < (l1.length : Int) := by omega
      have H := HH.out
      clear HH
      rw [show l1.length - kk = (l1.length - (kk + 1)) + 1 by omega, go] at H
      obtain ⟨ad, rfl, x0, x1, x2⟩ := at_T39 HR1.out kk (by omega) (by omega)
      rw [Int.toNat_natCast] at x0 x1 x2
      have hy : rd_T39 l1 (kk : Int) = l1.getD kk z39 := rfl
      rw [hy] at x0 x1 x2
      clear hy
      have hbd := List.all_eq_true.1 HBD.out (l1.getD kk z39) (by rw [getD_lt hlt]; exact List.getElem_mem hlt)
      simp only [Bool.and_eq_true, inB_iff] at hbd
      obtain ⟨⟨hf1, hf2⟩, ht1, ht2⟩ := hbd
      replace x0 := pw_cell_below B2.out x0
      replace x1 := pw_cell_below B2.out x1
      replace x2 := pw_cell_below B2.out x2
      generalize l1.getD kk z39 = y at x0 x1 x2 H hf1 hf2 ht1 ht2
      have hwf : wrap64 y.f0 = y.f0 := w_id (by omega) (by omega)
      have hwt : wrap64 y.f1 = y.f1 := w_id (by omega) (by omega)
      unfold bad at H
      rw [hwf, hwt] at H
      clear hwf hwt
      generalize hq : wrap64 ((l0.length : Int) - 1) = q at H
      have hq0 : 0 ≤ q → q + 1 ≤ (l0.length : Int) := by intro h0; rw [← hq]; unfold wrap64; omega
      have Hq := Lib.hid hq
      clear hq
      have isP := fun x W => ChkPay.isParty_any (l0.length : Int) x W
      rw [Hq.out] at isP
      have HP := Lib.hid isP
      clear isP
      obtain ⟨F, T, M⟩ := y
      simp only at x0 x1 x2 H hf1 hf2 ht1 ht2
      cases hb1 : inB F 0 q
      case false =>
        rw [hb1] at H
        obtain ⟨rfl, rfl⟩ := Prod.mk.inj (show (false, (0 : Int)) = (r1, r2) from H)
        clear H
        go_wp2_with (first | (go_at_call 33; refine (HP.out _ _).mono ?_; rintro e w' ⟨rfl, rfl⟩) | (go_at_call 34; refine (within_any _ _ _ _).mono ?_; rintro e w' ⟨rfl, rfl⟩))
        go_ret2
        exact ⟨rfl, below_alloc B2.out _⟩
      cases hb2 : inB T 0 q
      case false =>
        rw [hb1, hb2] at H
        obtain ⟨rfl, rfl⟩ := Prod.mk.inj (show (false, (0 : Int)) = (r1, r2) from H)
        clear H
        go_wp2_with (first | (go_at_call 33; refine (HP.out _ _).mono ?_; rintro e w' ⟨rfl, rfl⟩) | (go_at_call 34; refine (within_any _ _ _ _).mono ?_; rintro e w' ⟨rfl, rfl⟩))
        go_ret2
        exact ⟨rfl, below_alloc B2.out _⟩
      cases hb3 : (F == T)
      case true =>
        rw [hb1, hb2, hb3] at H
        obtain ⟨rfl, rfl⟩ := Prod.mk.inj (show (false, (0 : Int)) = (r1, r2) from H)
        clear H
        go_wp2_with (first | (go_at_call 33; refine (HP.out _ _).mono ?_; rintro e w' ⟨rfl, rfl⟩) | (go_at_call 34; refine (within_any _ _ _ _).mono ?_; rintro e w' ⟨rfl, rfl⟩))
        go_ret2
        exact ⟨rfl, below_alloc B2.out _⟩
      cases hb4 : inB M 1 1000000000
      case false =>
        rw [hb1, hb2, hb3, hb4] at H
        obtain ⟨rfl, rfl⟩ := Prod.mk.inj (show (false, (0 : Int)) = (r1, r2) from H)
        clear H
        go_wp2_with (first | (go_at_call 33; refine (HP.out _ _).mono ?_; rintro e w' ⟨rfl, rfl⟩) | (go_at_call 34; refine (within_any _ _ _ _).mono ?_; rintro e w' ⟨rfl, rfl⟩))
        go_ret2
        exact ⟨rfl, below_alloc B2.out _⟩
      rw [hb1, hb2, hb3, hb4] at H
      have H2 : fin (go (l0.length : Int) l1 (l1.length - (kk + 1)) (kk + 1) (put l ⟨F, T, M⟩)) = (r1, r2) := H
      clear H
      have HH := Lib.hid H2
      clear H2
      obtain ⟨hF0, hFq⟩ := inB_iff.1 hb1
      obtain ⟨hT0, hTq⟩ := inB_iff.1 hb2
      have hq1 := hq0 (by omega)
      have hFn : F < (l0.length : Int) := by omega
      have hTn : T < (l0.length : Int) := by omega
      clear hq0 hq1 hFq hTq
      have hF0' : decide (0 ≤ F) = true := decide_eq_true hF0
      have hT0' : decide (0 ≤ T) = true := decide_eq_true hT0
      have hFn' : decide (F < (l0.length : Int)) = true := decide_eq_true hFn
      have hTn' : decide (T < (l0.length : Int)) = true := decide_eq_true hTn
      have R8 : RI wr w.heap.size (.slice A7 l.length c7) l := by rw [hll]; exact R7.out
      obtain ⟨g, cap, eA, hg1, hg2, hg3⟩ := Kd.R_form R8 (by omega)
      injection eA with eA1 eA2 eA3
      subst eA1
      subst eA3
      clear eA2
      have R9 := Aside0.mk R8
      have HL := Lib.hid hll
      have hgx : g ≠ wr.heap.size := Nat.ne_of_lt hg2
      clear R8 R7 hll hg2 hg3
      go_wp2_with (first | (go_at_call 33; refine (HP.out _ _).mono ?_; rintro e w' ⟨rfl, rfl⟩) | (go_at_call 34; refine (within_any _ _ _ _).mono ?_; rintro e w' ⟨rfl, rfl⟩))
      first
        | refine ChkPay.reletE (F := fun w' => RI w' w.heap.size (.slice (some ⟨g, 0, none⟩) l.length c7) l ∧ Below w.heap.size w w' ∧ w'.cell? ⟨wr.heap.size, 0, none⟩ = some (.int .i8 F) ∧ w'.cell? ⟨wr.heap.size, 1, none⟩ = some (.int .i8 T) ∧ w'.cell? ⟨wr.heap.size, 2, none⟩ = some (.int .i64 M)) ⟨Kd.R_alloc R9.out _, below_alloc B2.out _, by simp, by simp, by simp⟩ ?_
        | refine ChkPay.reletI (F := fun w' => RI w' w.heap.size (.slice (some ⟨g, 0, none⟩) l.length c7) l ∧ Below w.heap.size w w' ∧ w'.cell? ⟨wr.heap.size, 0, none⟩ = some (.int .i8 F) ∧ w'.cell? ⟨wr.heap.size, 1, none⟩ = some (.int .i8 T) ∧ w'.cell? ⟨wr.heap.size, 2, none⟩ = some (.int .i64 M)) ⟨Kd.R_alloc R9.out _, below_alloc B2.out _, by simp, by simp, by simp⟩ ?_
        | refine ChkPay.reletC (F := fun w' => RI w' w.heap.size (.slice (some ⟨g, 0, none⟩) l.length c7) l ∧ Below w.heap.size w w' ∧ w'.cell? ⟨wr.heap.size, 0, none⟩ = some (.int .i8 F) ∧ w'.cell? ⟨wr.heap.size, 1, none⟩ = some (.int .i8 T) ∧ w'.cell? ⟨wr.heap.size, 2, none⟩ = some (.int .i64 M)) ⟨Kd.R_alloc R9.out _, below_alloc B2.out _, by simp, by simp, by simp⟩ ?_
      rintro w3 ⟨R3, B3, p0, p1, p2⟩
      obtain ⟨y0, z0⟩ := Kd.R_celln 0 R3 F hF0 (by rw [HL.out]; omega)
      obtain ⟨y1, z1⟩ := Kd.R_celln 0 R3 T hT0 (by rw [HL.out]; omega)
      have R5 := Kd.R_putn R3 F (wrap64 (rdOf 0 l F + M))
      obtain ⟨y2, z2⟩ := Kd.R_celln 0 R5 T hT0 (by rw [HL.out]; omega)
      have R6 := Aside0.mk (Kd.R_putn R5 T (wrap64 (rdOf 0 l T - M)))
      clear R5
      have p3 := (World.cell?_setCell_other (w := w3) (a := ⟨g, F.toNat, none⟩) (b := ⟨wr.heap.size, 0, none⟩) (v := .int .i64 (wrap64 (rdOf 0 l F + M))) (fun e => hgx (congrArg Addr.block e))).trans p0
      have p4 := (World.cell?_setCell_other (w := w3) (a := ⟨g, F.toNat, none⟩) (b := ⟨wr.heap.size, 1, none⟩) (v := .int .i64 (wrap64 (rdOf 0 l F + M))) (fun e => hgx (congrArg Addr.block e))).trans p1
      have p5 := (World.cell?_setCell_other (w := w3) (a := ⟨g, F.toNat, none⟩) (b := ⟨wr.heap.size, 2, none⟩) (v := .int .i64 (wrap64 (rdOf 0 l F + M))) (fun e => hgx (congrArg Addr.block e))).trans p2
      have R4 := Aside0.mk R3
      have B4 := Aside0.mk B3
      clear R3 B3 R9 B2
      go_region
      clear y0 z0 y1 z1 y2 z2 p0 p1 p2 p3 p4 p5
      go_wp2
      go_roundg (l1.length - (kk + 1))
      case measure => omega
      case rel => exact ⟨kk + 1, put l ⟨F, T, M⟩, by omega, by omega, by go_num, by rw [put_length, HL.out], ⟨by have h_ := Kd.R_drew R6.out; rw [HL.out] at h_; exact h_⟩, ⟨below_two B4.out hg1 _ _⟩, HH⟩
    · have hlt' : ¬ (kk : Int) < (l1.length : Int) := by omega
      obtain rfl : kk = l1.length := by omega
      have H := HH.out
      clear HH
      rw [Nat.sub_self] at H
      obtain ⟨rfl, rfl⟩ := Prod.mk.inj (show (allB l 0 0, (0 : Int)) = (r1, r2) from H)
      have hall : impl_allWithin.f l 0 0 = some (allB l 0 0) := rfl
      obtain ⟨A, cq, e, hcq, hC⟩ := Kd.R_reads R7.out
      injection e with e1 e2 e3
      subst e1
      subst e3
      have HC := Aside0.mk hC
      have HL := Lib.hid hll
      clear hC H e2
      go_wp2_with (go_at_call 35; (refine (show Calls Try.prog 35 #[.slice A7 l0.length c7, .int .i64 0, .int .i64 0] wr _ by rw [← HL.out]; exact (impl_allWithin.calls A7 c7 l 0 0 _ wr HC.out hcq hall)).mono ?_; rintro e w3 ⟨rfl, hb3⟩))
      go_ret2
      exact ⟨rfl, below_then B2.out B2.out.size hb3⟩
end Go.Proofs.Ytljkamjdpjaooaa.G
