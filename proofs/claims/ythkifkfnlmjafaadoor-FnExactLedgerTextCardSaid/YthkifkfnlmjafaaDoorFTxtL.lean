/- impl.LedgerText, walked by hand: each entry's line, written into a builder. Printed by wip/tools/ledg.py. -/
import Derived.Test.YthkifkfnlmjafaaDoorG0
import Derived.Test.YthkifkfnlmjafaaDoorWk
import Derived.Test.YthkifkfnlmjafaaDoorPl
import Derived.Test.YthkifkfnlmjafaaDoorFTxtA
import Derived.Test.YthkifkfnlmjafaaDoorFLibEntry
import Derived.Test.YthkifkfnlmjafaaDoorG2
import Derived.Test.YthkifkfnlmjafaaDoorG2
namespace Go.Proofs.YthkifkfnlmjafaaDoor.G
open Go.RowKit Go.Proofs.YthkifkfnlmjafaaDoorW.PrintWords Go.Proofs.YthkifkfnlmjafaaDoorW.PrintLast Go.Proofs.YthkifkfnlmjafaaDoorW.PrintMore
attribute [local go_sem] max2_int min2_int max_two min_two max_three min_three max_four min_four   -- for this text's walks alone
set_option linter.unusedVariables false
set_option linter.unusedSimpArgs false

open Go.Proofs.YthkifkfnlmjafaaDoor.Wk Go.Proofs.YthkifkfnlmjafaaDoor.Pl
namespace Txt
abbrev En := S61
/-- The words for what entries tell. -/
def whatsL : List ByteArray := [⟨#[102, 117, 108, 108]⟩, ⟨#[101, 109, 112, 116, 121]⟩, ⟨#[99, 114, 97, 116, 101]⟩, ⟨#[100, 114, 105, 110, 107]⟩, ⟨#[98, 114, 101, 97, 107]⟩]
def what (u : Int) : List UInt8 := (rdOf ByteArray.empty whatsL u).data.toList
/-- The line of an entry. -/
def lineE (y : En) : List UInt8 := Lib.itoa y.f0 ++ [32] ++ Lib.itoa y.f1 ++ [62] ++ Lib.itoa y.f2 ++ [32] ++ what y.f3 ++ [32] ++ Lib.itoa y.f4 ++ [10]
def textE (l : List En) : List UInt8 := (l.map lineE).flatten
theorem textE_snoc (m : List En) (x : En) : textE (m ++ [x]) = textE m ++ lineE x := by simp [textE]
structure EnOk (y : En) : Prop where
  e0 : 0 ≤ y.f0 ∧ y.f0 ≤ 10000
  e1 : 0 ≤ y.f1 ∧ y.f1 ≤ 5
  e2 : 0 ≤ y.f2 ∧ y.f2 ≤ 5
  e3 : 0 ≤ y.f3 ∧ y.f3 ≤ 4
  e4 : 1 ≤ y.f4 ∧ y.f4 ≤ 1000
theorem what_len (u : Int) : (what u).length ≤ 5 := by
  unfold what rdOf
  have : ∀ n : Nat, ((whatsL.getD n ByteArray.empty).data.toList).length ≤ 5 := by
    intro n
    rcases n with _ | _ | _ | _ | _ | n
    all_goals (try (show (_ : Nat) ≤ 5; decide))
    simp [whatsL, List.getD]
  exact this _
theorem itoa_le21 {x : Int} (h0 : -40000 ≤ x) (h1 : x ≤ 40000) : (Lib.itoa x).length ≤ 21 := Lib.itoa_length_le x (by omega) (by omega)
theorem lineE_len {y : En} (h : EnOk y) : (lineE y).length ≤ 94 := by
  have := itoa_le21 (x := y.f0) (by have := h.e0; omega) (by have := h.e0; omega)
  have := itoa_le21 (x := y.f1) (by have := h.e1; omega) (by have := h.e1; omega)
  have := itoa_le21 (x := y.f2) (by have := h.e2; omega) (by have := h.e2; omega)
  have := itoa_le21 (x := y.f4) (by have := h.e4; omega) (by have := h.e4; omega)
  have := what_len y.f3
  unfold lineE
  simp only [List.length_append, List.length_cons, List.length_nil]
  omega
theorem textE_len : ∀ m : List En, (∀ x ∈ m, EnOk x) → (textE m).length ≤ 94 * m.length
  | [], _ => by simp [textE]
  | x :: r, h => by
    have h1 := lineE_len (h x (List.mem_cons_self))
    have h2 := textE_len r fun y hy => h y (List.mem_cons_of_mem _ hy)
    unfold textE at h2 ⊢
    rw [List.map_cons, List.flatten_cons, List.length_append, List.length_cons]
    omega
/-- The numbers of an entry are of their kinds. -/
def rngB (y : En) : Bool := inB y.f0 (-32768) 32767 && (inB y.f1 (-128) 127 && (inB y.f2 (-128) 127 && (inB y.f3 0 255 && inB y.f4 (-32768) 32767)))
theorem entry_ok {l : List En} {j : Nat} (hr : rngB (l.getD j z61) = true) (h : okAt 6 l j = true) : EnOk (l.getD j z61) := by
  unfold okAt at h
  rw [Bool.and_eq_true] at h
  have h1 := h.1
  clear h
  generalize l.getD j z61 = y at hr h1 ⊢
  unfold entryB at h1
  unfold rngB at hr
  simp only [Bool.and_eq_true, inB_iff, decide_eq_true_eq] at h1 hr
  have e6 : wrap64 (6 - 1) = 5 := by decide +kernel
  rw [e6, w_id (x := y.f1) (by omega) (by omega), w_id (x := y.f2) (by omega) (by omega), w_id (x := y.f0) (by omega) (by omega), w_id (x := y.f4) (by omega) (by omega)] at h1
  exact ⟨by omega, by omega, by omega, by omega, by omega⟩
theorem ledger_ok {l : List En} (hb : l.all rngB = true) (h : ledgerB 6 l = true) : l.length ≤ 80 ∧ ∀ x ∈ l, EnOk x := by
  unfold ledgerB at h
  rw [Bool.and_eq_true, Bool.and_eq_true, decide_eq_true_eq] at h
  refine ⟨h.2.1, fun x hx => ?_⟩
  obtain ⟨j, hj, rfl⟩ := List.getElem_of_mem hx
  have h2 := List.all_eq_true.1 h.1 j (List.mem_range.2 hj)
  have hbx := List.all_eq_true.1 hb _ hx
  rw [← getD_lt hj z61] at hbx ⊢
  exact entry_ok hbx h2
end Txt
open Txt
def impl_LedgerText.f (l0 : List S61) : Option ByteArray := if l0.all rngB = true ∧ l0.length ≤ 1099511627776 then some (if ledgerB 6 l0 = true then B (textE l0) else B []) else none
set_option maxHeartbeats 8000000 in
set_option maxRecDepth 100000 in
theorem impl_LedgerText.calls (A0 : Option Addr) (c0 : Nat) (l0 : List S61) (r : ByteArray) (w : World) (hr0 : Kd.C k61 w A0 l0.length l0) (hc0 : l0.length ≤ c0) (h : impl_LedgerText.f l0 = some r) (hLW : Lw w) :
    Calls Tryd.prog 14 #[.slice A0 l0.length c0] w fun e w' => e = .returned (.string r) ∧ Below w.heap.size w w' := by
  unfold impl_LedgerText.f at h
  by_cases hlim : l0.all rngB = true ∧ l0.length ≤ 1099511627776
  case neg => rw [if_neg hlim] at h; cases h
  rw [if_pos hlim] at h
  replace h := Option.some.inj h
  have HR := Aside0.mk hr0
  have HLW := Aside0.mk hLW
  have HB := Aside0.mk (Below.refl w.heap.size w)
  have HV := Lib.hid (validLedger_tells 6 l0 hlim.2 (l0.length + 1) (by omega))
  have hu := Tryd.underlying61
  clear hr0 hLW
  cases hm : ledgerB 6 l0 with
  | false =>
    rw [hm] at h HV
    rw [if_neg Bool.false_ne_true] at h
    subst h
    clear hm hlim
    go_enter Tryd.func14, Tryd.ntmps14
    go_wp2_with (go_at_call 37; ((with_reducible refine (impl_ValidLedger.calls _ 6 A0 c0 l0 false _ HR.out hc0 HV.out).mono ?_); rintro e w1 ⟨rfl, hb1⟩))
    go_ret
    exact ⟨rfl, hb1⟩
  | true =>
    rw [hm] at h HV
    rw [if_pos rfl] at h
    subst h
    obtain ⟨hlen, hrows⟩ := ledger_ok hlim.1 hm
    have HROWS := Lib.hid hrows
    clear hm hrows hlim
    go_enter Tryd.func14, Tryd.ntmps14
    go_wp2_with (go_at_call 37; ((with_reducible refine (impl_ValidLedger.calls _ 6 A0 c0 l0 true _ HR.out hc0 HV.out).mono ?_); rintro e w1 ⟨rfl, hb1⟩; have HB1 := Aside0.mk hb1; clear hb1))
    refine reletC (F := fun W => Below w.heap.size w W ∧ Lib.IsBuilder 67 5 w1.heap.size w1.heap.size (Lib.byteCells (textE (l0.take 0))) W) ⟨HB1.out.alloc HB1.out.size _, Lib.fresh_isBuilder 67 5 w1⟩ ?_
    rintro w2 ⟨hb2, hI2⟩
    have HB2 := Aside0.mk hb2
    have HI2 := Aside0.mk hI2
    clear hb2 hI2
    have hBw : w.heap.size ≤ w1.heap.size := HB1.out.size
    go_loopg [13] l0.length (fun gg v13 wr => ∃ kk : Nat, kk ≤ l0.length ∧ l0.length - kk ≤ gg ∧ v13 = .int .i64 kk ∧ Aside0 (Below w.heap.size w wr) ∧ Aside0 (Lib.IsBuilder 67 5 w1.heap.size w1.heap.size (Lib.byteCells (textE (l0.take kk))) wr))
    case atStart => exact ⟨0, Nat.zero_le _, by omega, rfl, HB2, HI2⟩
    case round =>
      clear HB1 HB2 HI2 HB
      obtain ⟨kk, hkk, hg, rfl, HBr, HIr⟩ := hrel
      obtain ⟨wo, hwo⟩ : ∃ wo, wo = wr := ⟨_, rfl⟩
      subst hwo
      have hs1 : w1.heap.size ≤ wo.heap.size := by
        obtain h1 | h1 := HIr.out <;> (have := h1.lt; omega)
      have HS1 := Lib.hid hs1
      clear hs1
      by_cases hlt : kk < l0.length
      · have c0_ : decide ((kk : Int) < (l0.length : Int)) = true := decide_eq_true (by omega)
        have p0 : (0 : Int) ≤ (kk : Int) := by omega
        obtain ⟨ad, hA, x0, x1, x2, x3, x4⟩ := at_T61 HR.out (kk : Int) (by omega) (by omega)
        subst hA
        rw [Int.toNat_natCast, show rd_T61 l0 (kk : Int) = l0.getD kk z61 from rfl] at x0 x1 x2 x3 x4
        have hOk : EnOk (l0.getD kk z61) := HROWS.out _ (by rw [getD_lt hlt]; exact List.getElem_mem _)
        have hT1 : textE (l0.take (kk + 1)) = textE (l0.take kk) ++ lineE (l0.getD kk z61) := by
          rw [List.take_succ_eq_append_getElem hlt, textE_snoc, getD_lt hlt]
        have hTl : (textE (l0.take kk)).length ≤ 94 * 80 := by
          have := textE_len (l0.take kk) fun x hx => HROWS.out x (List.mem_of_mem_take hx)
          rw [List.length_take] at this
          omega
        generalize l0.getD kk z61 = y at x0 x1 x2 x3 x4 hOk hT1
        have y0 := pw_cell_below HBr.out x0
        have y1 := pw_cell_below HBr.out x1
        have y2 := pw_cell_below HBr.out x2
        have y3 := pw_cell_below HBr.out x3
        have y4 := pw_cell_below HBr.out x4
        clear x0 x1 x2 x3 x4
        have hll := lineE_len hOk
        have hW : ∀ W, Lib.IsBuilder 67 5 w1.heap.size w1.heap.size (Lib.byteCells (textE (l0.take kk))) W → w1.heap.size ≤ W.heap.size → Calls Tryd.prog 38 #[.pointer (some ⟨w1.heap.size, 0, none⟩), .string (B (lineE y))] W fun e w' => (∃ v, e = .returned v) ∧ Lib.IsBuilder 67 5 w1.heap.size w1.heap.size (Lib.byteCells (textE (l0.take (kk + 1)))) w' ∧ Below w1.heap.size W w' := by
          intro W hW hB
          rw [hT1]
          exact builder_write _ _ _ _ W hW (by omega) hB
        obtain ⟨E0, E1, E2, E3, E4⟩ := y
        have o0 := hOk.e0
        have o1 := hOk.e1
        have o2 := hOk.e2
        have o3 := hOk.e3
        have o4 := hOk.e4
        simp only at y0 y1 y2 y3 y4 o0 o1 o2 o3 o4
        have dd : ∀ x : Int, 0 ≤ x → x ≤ 40000 → impl_decimal.f (wrap64 x) = some (B (Lib.itoa x)) := fun x h0 h1 => by
          rw [w_id (by omega) (by omega)]
          unfold impl_decimal.f
          rw [if_pos (by omega)]
          rfl
        have h0 := dd E0 (by omega) (by omega)
        have h1 := dd E1 (by omega) (by omega)
        have h2 := dd E2 (by omega) (by omega)
        have h4 := dd E4 (by omega) (by omega)
        have s0 := itoa_le21 (x := E0) (by omega) (by omega)
        have s1 := itoa_le21 (x := E1) (by omega) (by omega)
        have s2 := itoa_le21 (x := E2) (by omega) (by omega)
        have s4 := itoa_le21 (x := E4) (by omega) (by omega)
        have s3 := what_len E3
        rw [← B_size] at s0 s1 s2 s3 s4
        have hw0 : rdOf ByteArray.empty whatsL E3 = B (what E3) := (B_self _).symm
        have hcat : ((((((((B (Lib.itoa E0) ++ (⟨#[32]⟩ : ByteArray)) ++ B (Lib.itoa E1)) ++ (⟨#[62]⟩ : ByteArray)) ++ B (Lib.itoa E2)) ++ (⟨#[32]⟩ : ByteArray)) ++ B (what E3)) ++ (⟨#[32]⟩ : ByteArray)) ++ B (Lib.itoa E4)) ++ (⟨#[10]⟩ : ByteArray) = B (lineE ⟨E0, E1, E2, E3, E4⟩) := by
          unfold lineE
          simp only [show (⟨#[32]⟩ : ByteArray) = B [32] from rfl, show (⟨#[62]⟩ : ByteArray) = B [62] from rfl, show (⟨#[10]⟩ : ByteArray) = B [10] from rfl, B_append]
        rw [← hcat] at hW
        clear hcat dd hll hT1 hOk
        generalize B (Lib.itoa E0) = t0 at *
        generalize B (Lib.itoa E1) = t1 at *
        generalize B (Lib.itoa E2) = t2 at *
        generalize B (Lib.itoa E4) = t4 at *
        generalize B (what E3) = W0 at *
        have q3 : E3 < ((whatsL.length : Nat) : Int) := by show E3 < 5; omega
        obtain ⟨ws, hws⟩ : ∃ ws, ws = whatsL := ⟨_, rfl⟩
        rw [← hws] at hw0 q3
        have HWS := Lib.hid (show impl_whats.f = some ws by rw [hws]; rfl)
        have HD0 := Lib.hid h0
        have HD1 := Lib.hid h1
        have HD2 := Lib.hid h2
        have HD4 := Lib.hid h4
        have HW0 := Lib.hid hw0.symm
        have HW := Lib.hid hW
        have c2 : (9223372036854775807 < t0.size + 1) = False := eq_false (by omega)
        have c3 : (9223372036854775807 < t0.size + 1 + t1.size) = False := eq_false (by omega)
        have c4 : (9223372036854775807 < t0.size + 1 + t1.size + 1) = False := eq_false (by omega)
        have c5 : (9223372036854775807 < t0.size + 1 + t1.size + 1 + t2.size) = False := eq_false (by omega)
        have c6 : (9223372036854775807 < t0.size + 1 + t1.size + 1 + t2.size + 1) = False := eq_false (by omega)
        have c7 : (9223372036854775807 < t0.size + 1 + t1.size + 1 + t2.size + 1 + W0.size) = False := eq_false (by omega)
        have c8 : (9223372036854775807 < t0.size + 1 + t1.size + 1 + t2.size + 1 + W0.size + 1) = False := eq_false (by omega)
        have c9 : (9223372036854775807 < t0.size + 1 + t1.size + 1 + t2.size + 1 + W0.size + 1 + t4.size) = False := eq_false (by omega)
        have c10 : (9223372036854775807 < t0.size + 1 + t1.size + 1 + t2.size + 1 + W0.size + 1 + t4.size + 1) = False := eq_false (by omega)
        have p3 : (0 ≤ E3) = True := eq_true o3.1
        replace q3 := eq_true q3
        clear h0 h1 h2 h4 hw0 hW hws s0 s1 s2 s3 s4 o0 o1 o2 o3 o4
        go_wp2
        refine reletC (F := fun W => Below wo.heap.size wo W ∧ W.heap[wo.heap.size]? = some (.cells #[.int .i16 E0, .int .i8 E1, .int .i8 E2, .int .u8 E3, .int .i16 E4] 61 (0, 0))) ⟨(Below.refl _ _).alloc (Nat.le_refl _) _, heap_alloc_new _ _⟩ ?_
        rintro w3 ⟨hb3, hk3⟩
        have HB := Aside0.mk (below_drew1 hb3)
        have BK := Aside0.mk (blk_drew hk3)
        clear hb3 hk3 y0 y1 y2 y3 y4
        refine start_ (n := 32) (S := fun w' => w'.cell? ⟨wo.heap.size, 0, none⟩ = some (.int .i16 E0) ∧ w'.cell? ⟨wo.heap.size, 1, none⟩ = some (.int .i8 E1) ∧ w'.cell? ⟨wo.heap.size, 2, none⟩ = some (.int .i8 E2) ∧ w'.cell? ⟨wo.heap.size, 3, none⟩ = some (.int .u8 E3) ∧ w'.cell? ⟨wo.heap.size, 4, none⟩ = some (.int .i16 E4)) (ds := [31]) #[false, false, false, false, false, false, false, false, false, false, false, false, false, false, false, false, false, false, false, false, false, false, false, false, false, false, false, false, false, false, false, false] (by kernel_rfl) rfl rfl ⟨(blk_cell BK.out 0).trans rfl, (blk_cell BK.out 1).trans rfl, (blk_cell BK.out 2).trans rfl, (blk_cell BK.out 3).trans rfl, (blk_cell BK.out 4).trans rfl⟩ (fun hHeld => ?_)
        generalize w3.drew = w4_ at BK HB hHeld ⊢
        refine pure_ (i := 0) (N := some 17) (v := ?_) (a' := ?_) #[true, false, false, false, false, false, false, false, false, false, false, false, false, false, false, false, false, false, false, false, false, false, false, false, false, false, false, false, false, false, false, false] rfl rfl (by kernel_rfl) (fun _ _ _ h => h) (Or.inl ⟨by rfl, ?_⟩) ?_ ?_
        rotate_left
        · intro w'
          go_simp
          with_reducible rfl
        rotate_left
        · simp only [Act.put, List.setIfInBounds_toArray, List.set_cons_zero, List.set_cons_succ, i64_w, i32_w]
          rfl
        refine pure_ (i := 1) (N := some 18) (v := ?_) (a' := ?_) #[true, true, false, false, false, false, false, false, false, false, false, false, false, false, false, false, false, false, false, false, false, false, false, false, false, false, false, false, false, false, false, false] rfl rfl (by kernel_rfl) (fun _ _ _ h => h) (Or.inl ⟨by rfl, ?_⟩) ?_ ?_
        rotate_left
        · intro w'
          go_simp
          with_reducible rfl
        rotate_left
        · simp only [Act.put, List.setIfInBounds_toArray, List.set_cons_zero, List.set_cons_succ, i64_w, i32_w]
          rfl
        refine pure_ (i := 6) (N := some 23) (v := ?_) (a' := ?_) #[true, true, false, false, false, false, true, false, false, false, false, false, false, false, false, false, false, false, false, false, false, false, false, false, false, false, false, false, false, false, false, false] rfl rfl (by kernel_rfl) (fun _ _ _ h => h) (Or.inl ⟨by rfl, ?_⟩) ?_ ?_
        rotate_left
        · intro w'
          go_simp
          with_reducible rfl
        rotate_left
        · simp only [Act.put, List.setIfInBounds_toArray, List.set_cons_zero, List.set_cons_succ, i64_w, i32_w]
          rfl
        refine pure_ (i := 12) (N := some 29) (v := ?_) (a' := ?_) #[true, true, false, false, false, false, true, false, false, false, false, false, true, false, false, false, false, false, false, false, false, false, false, false, false, false, false, false, false, false, false, false] rfl rfl (by kernel_rfl) (fun _ _ _ h => h) (Or.inl ⟨by rfl, ?_⟩) ?_ ?_
        rotate_left
        · intro w'
          go_simp
          with_reducible rfl
        rotate_left
        · simp only [Act.put, List.setIfInBounds_toArray, List.set_cons_zero, List.set_cons_succ, i64_w, i32_w]
          rfl
        refine pure_ (i := 19) (N := some 36) (v := ?_) (a' := ?_) #[true, true, false, false, false, false, true, false, false, false, false, false, true, false, false, false, false, false, false, true, false, false, false, false, false, false, false, false, false, false, false, false] rfl rfl (by kernel_rfl) (fun _ _ _ h => h) (Or.inl ⟨by rfl, ?_⟩) ?_ ?_
        rotate_left
        · intro w'
          go_simp
          with_reducible rfl
        rotate_left
        · simp only [Act.put, List.setIfInBounds_toArray, List.set_cons_zero, List.set_cons_succ, i64_w, i32_w]
          rfl
        refine pure_ (i := 25) (N := some 42) (v := ?_) (a' := ?_) #[true, true, false, false, false, false, true, false, false, false, false, false, true, false, false, false, false, false, false, true, false, false, false, false, false, true, false, false, false, false, false, false] rfl rfl (by kernel_rfl) (fun _ _ _ h => h) (Or.inl ⟨by rfl, ?_⟩) ?_ ?_
        rotate_left
        · intro w'
          go_simp
          with_reducible rfl
        rotate_left
        · simp only [Act.put, List.setIfInBounds_toArray, List.set_cons_zero, List.set_cons_succ, i64_w, i32_w]
          rfl
        refine take_ (i := 2) (N := some 19) (v := ?_) (a' := ?_) #[true, true, true, false, false, false, true, false, false, false, false, false, true, false, false, false, false, false, false, true, false, false, false, false, false, true, false, false, false, false, false, false] rfl rfl (by kernel_rfl) (fun _ _ _ h => h) (Or.inl ⟨by rfl, ?_⟩) hHeld ?_ ?_
        rotate_left
        · rintro w' ⟨s0, s1, s2, s3, s4⟩
          go_simp
          with_reducible rfl
        rotate_left
        · simp only [Act.put, List.setIfInBounds_toArray, List.set_cons_zero, List.set_cons_succ, i64_w, i32_w]
          rfl
        refine pure_ (i := 3) (N := some 20) (v := ?_) (a' := ?_) #[true, true, true, true, false, false, true, false, false, false, false, false, true, false, false, false, false, false, false, true, false, false, false, false, false, true, false, false, false, false, false, false] rfl rfl (by kernel_rfl) (fun _ _ _ h => h) (Or.inl ⟨by rfl, ?_⟩) ?_ ?_
        rotate_left
        · intro w'
          go_simp
          with_reducible rfl
        rotate_left
        · simp only [Act.put, List.setIfInBounds_toArray, List.set_cons_zero, List.set_cons_succ, i64_w, i32_w]
          rfl
        refine take_ (i := 7) (N := some 24) (v := ?_) (a' := ?_) #[true, true, true, true, false, false, true, true, false, false, false, false, true, false, false, false, false, false, false, true, false, false, false, false, false, true, false, false, false, false, false, false] rfl rfl (by kernel_rfl) (fun _ _ _ h => h) (Or.inl ⟨by rfl, ?_⟩) hHeld ?_ ?_
        rotate_left
        · rintro w' ⟨s0, s1, s2, s3, s4⟩
          go_simp
          with_reducible rfl
        rotate_left
        · simp only [Act.put, List.setIfInBounds_toArray, List.set_cons_zero, List.set_cons_succ, i64_w, i32_w]
          rfl
        refine pure_ (i := 8) (N := some 25) (v := ?_) (a' := ?_) #[true, true, true, true, false, false, true, true, true, false, false, false, true, false, false, false, false, false, false, true, false, false, false, false, false, true, false, false, false, false, false, false] rfl rfl (by kernel_rfl) (fun _ _ _ h => h) (Or.inl ⟨by rfl, ?_⟩) ?_ ?_
        rotate_left
        · intro w'
          go_simp
          with_reducible rfl
        rotate_left
        · simp only [Act.put, List.setIfInBounds_toArray, List.set_cons_zero, List.set_cons_succ, i64_w, i32_w]
          rfl
        refine take_ (i := 13) (N := some 30) (v := ?_) (a' := ?_) #[true, true, true, true, false, false, true, true, true, false, false, false, true, true, false, false, false, false, false, true, false, false, false, false, false, true, false, false, false, false, false, false] rfl rfl (by kernel_rfl) (fun _ _ _ h => h) (Or.inl ⟨by rfl, ?_⟩) hHeld ?_ ?_
        rotate_left
        · rintro w' ⟨s0, s1, s2, s3, s4⟩
          go_simp
          with_reducible rfl
        rotate_left
        · simp only [Act.put, List.setIfInBounds_toArray, List.set_cons_zero, List.set_cons_succ, i64_w, i32_w]
          rfl
        refine pure_ (i := 14) (N := some 31) (v := ?_) (a' := ?_) #[true, true, true, true, false, false, true, true, true, false, false, false, true, true, true, false, false, false, false, true, false, false, false, false, false, true, false, false, false, false, false, false] rfl rfl (by kernel_rfl) (fun _ _ _ h => h) (Or.inl ⟨by rfl, ?_⟩) ?_ ?_
        rotate_left
        · intro w'
          go_simp
          with_reducible rfl
        rotate_left
        · simp only [Act.put, List.setIfInBounds_toArray, List.set_cons_zero, List.set_cons_succ, i64_w, i32_w]
          rfl
        refine take_ (i := 20) (N := some 37) (v := ?_) (a' := ?_) #[true, true, true, true, false, false, true, true, true, false, false, false, true, true, true, false, false, false, false, true, true, false, false, false, false, true, false, false, false, false, false, false] rfl rfl (by kernel_rfl) (fun _ _ _ h => h) (Or.inl ⟨by rfl, ?_⟩) hHeld ?_ ?_
        rotate_left
        · rintro w' ⟨s0, s1, s2, s3, s4⟩
          go_simp
          with_reducible rfl
        rotate_left
        · simp only [Act.put, List.setIfInBounds_toArray, List.set_cons_zero, List.set_cons_succ, i64_w, i32_w]
          rfl
        refine take_ (i := 26) (N := some 43) (v := ?_) (a' := ?_) #[true, true, true, true, false, false, true, true, true, false, false, false, true, true, true, false, false, false, false, true, true, false, false, false, false, true, true, false, false, false, false, false] rfl rfl (by kernel_rfl) (fun _ _ _ h => h) (Or.inl ⟨by rfl, ?_⟩) hHeld ?_ ?_
        rotate_left
        · rintro w' ⟨s0, s1, s2, s3, s4⟩
          go_simp
          with_reducible rfl
        rotate_left
        · simp only [Act.put, List.setIfInBounds_toArray, List.set_cons_zero, List.set_cons_succ, i64_w, i32_w]
          rfl
        refine pure_ (i := 27) (N := some 44) (v := ?_) (a' := ?_) #[true, true, true, true, false, false, true, true, true, false, false, false, true, true, true, false, false, false, false, true, true, false, false, false, false, true, true, true, false, false, false, false] rfl rfl (by kernel_rfl) (fun _ _ _ h => h) (Or.inl ⟨by rfl, ?_⟩) ?_ ?_
        rotate_left
        · intro w'
          go_simp
          with_reducible rfl
        rotate_left
        · simp only [Act.put, List.setIfInBounds_toArray, List.set_cons_zero, List.set_cons_succ, i64_w, i32_w]
          rfl
        refine one_ (i := 4) (N := some 21) #[true, true, true, true, true, false, true, true, true, false, false, false, true, true, true, false, false, false, false, true, true, false, false, false, false, true, true, true, false, false, false, false] rfl rfl (by kernel_rfl) (by decide) (fun K hK => ?_)
        refine goes_ Tryd.func32 (by kernel_rfl) rfl #[.int .i64 (wrap64 E0)] (by rfl) rfl rfl (by (try simp only [List.map_toArray, List.map_cons, List.map_nil]); first | done | rfl) ?_
        with_reducible refine (impl_decimal.calls (wrap64 E0) t0 _ HD0.out (Lw.on HLW.out (HBr.out.trans (HB.out.mono HBr.out.size)))).mono ?_
        rintro e w4 ⟨rfl, hb⟩
        refine ⟨_, rfl, ?_⟩
        have n1_ := Aside0.mk (blk_below (g := wo.heap.size) (o := .cells #[.int .i16 E0, .int .i8 E1, .int .i8 E2, .int .u8 E3, .int .i16 E4] 61 (0, 0)) BK.out hb)
        have n2_ := Aside0.mk (below_step HB.out hb)
        clear BK HB
        have BK := n1_
        have HB := n2_
        clear n1_ n2_
        clear hb
        refine hK.out _ _ ⟨(blk_cell BK.out 0).trans rfl, (blk_cell BK.out 1).trans rfl, (blk_cell BK.out 2).trans rfl, (blk_cell BK.out 3).trans rfl, (blk_cell BK.out 4).trans rfl⟩ (fun hHeld => ?_)
        clear hK K
        refine norm_ (a' := ?_) ?_ ?_
        rotate_left
        · show Act.put _ (some 21) _ = _
          simp only [Act.put, List.setIfInBounds_toArray, List.set_cons_zero, List.set_cons_succ, i64_w, i32_w]
          rfl
        refine pure_ (i := 5) (N := some 22) (v := ?_) (a' := ?_) #[true, true, true, true, true, true, true, true, true, false, false, false, true, true, true, false, false, false, false, true, true, false, false, false, false, true, true, true, false, false, false, false] rfl rfl (by kernel_rfl) (fun _ _ _ h => h) (Or.inl ⟨by rfl, ?_⟩) ?_ ?_
        rotate_left
        · intro w'
          go_simp
          with_reducible rfl
        rotate_left
        · simp only [Act.put, List.setIfInBounds_toArray, List.set_cons_zero, List.set_cons_succ, i64_w, i32_w]
          rfl
        refine one_ (i := 9) (N := some 26) #[true, true, true, true, true, true, true, true, true, true, false, false, true, true, true, false, false, false, false, true, true, false, false, false, false, true, true, true, false, false, false, false] rfl rfl (by kernel_rfl) (by decide) (fun K hK => ?_)
        refine goes_ Tryd.func32 (by kernel_rfl) rfl #[.int .i64 (wrap64 E1)] (by rfl) rfl rfl (by (try simp only [List.map_toArray, List.map_cons, List.map_nil]); first | done | rfl) ?_
        with_reducible refine (impl_decimal.calls (wrap64 E1) t1 _ HD1.out (Lw.on HLW.out (HBr.out.trans (HB.out.mono HBr.out.size)))).mono ?_
        rintro e w9 ⟨rfl, hb⟩
        refine ⟨_, rfl, ?_⟩
        have n1_ := Aside0.mk (blk_below (g := wo.heap.size) (o := .cells #[.int .i16 E0, .int .i8 E1, .int .i8 E2, .int .u8 E3, .int .i16 E4] 61 (0, 0)) BK.out hb)
        have n2_ := Aside0.mk (below_step HB.out hb)
        clear BK HB
        have BK := n1_
        have HB := n2_
        clear n1_ n2_
        clear hb
        refine hK.out _ _ ⟨(blk_cell BK.out 0).trans rfl, (blk_cell BK.out 1).trans rfl, (blk_cell BK.out 2).trans rfl, (blk_cell BK.out 3).trans rfl, (blk_cell BK.out 4).trans rfl⟩ (fun hHeld => ?_)
        clear hK K
        refine norm_ (a' := ?_) ?_ ?_
        rotate_left
        · show Act.put _ (some 26) _ = _
          simp only [Act.put, List.setIfInBounds_toArray, List.set_cons_zero, List.set_cons_succ, i64_w, i32_w]
          rfl
        refine pure_ (i := 10) (N := some 27) (v := ?_) (a' := ?_) #[true, true, true, true, true, true, true, true, true, true, true, false, true, true, true, false, false, false, false, true, true, false, false, false, false, true, true, true, false, false, false, false] rfl rfl (by kernel_rfl) (fun _ _ _ h => h) (Or.inl ⟨by rfl, ?_⟩) ?_ ?_
        rotate_left
        · intro w'
          go_simp
          with_reducible rfl
        rotate_left
        · simp only [Act.put, List.setIfInBounds_toArray, List.set_cons_zero, List.set_cons_succ, i64_w, i32_w]
          rfl
        refine pure_ (i := 11) (N := some 28) (v := ?_) (a' := ?_) #[true, true, true, true, true, true, true, true, true, true, true, true, true, true, true, false, false, false, false, true, true, false, false, false, false, true, true, true, false, false, false, false] rfl rfl (by kernel_rfl) (fun _ _ _ h => h) (Or.inl ⟨by rfl, ?_⟩) ?_ ?_
        rotate_left
        · intro w'
          go_simp
          with_reducible rfl
        rotate_left
        · simp only [Act.put, List.setIfInBounds_toArray, List.set_cons_zero, List.set_cons_succ, i64_w, i32_w]
          rfl
        refine one_ (i := 15) (N := some 32) #[true, true, true, true, true, true, true, true, true, true, true, true, true, true, true, true, false, false, false, true, true, false, false, false, false, true, true, true, false, false, false, false] rfl rfl (by kernel_rfl) (by decide) (fun K hK => ?_)
        refine goes_ Tryd.func32 (by kernel_rfl) rfl #[.int .i64 (wrap64 E2)] (by rfl) rfl rfl (by (try simp only [List.map_toArray, List.map_cons, List.map_nil]); first | done | rfl) ?_
        with_reducible refine (impl_decimal.calls (wrap64 E2) t2 _ HD2.out (Lw.on HLW.out (HBr.out.trans (HB.out.mono HBr.out.size)))).mono ?_
        rintro e w15 ⟨rfl, hb⟩
        refine ⟨_, rfl, ?_⟩
        have n1_ := Aside0.mk (blk_below (g := wo.heap.size) (o := .cells #[.int .i16 E0, .int .i8 E1, .int .i8 E2, .int .u8 E3, .int .i16 E4] 61 (0, 0)) BK.out hb)
        have n2_ := Aside0.mk (below_step HB.out hb)
        clear BK HB
        have BK := n1_
        have HB := n2_
        clear n1_ n2_
        clear hb
        refine hK.out _ _ ⟨(blk_cell BK.out 0).trans rfl, (blk_cell BK.out 1).trans rfl, (blk_cell BK.out 2).trans rfl, (blk_cell BK.out 3).trans rfl, (blk_cell BK.out 4).trans rfl⟩ (fun hHeld => ?_)
        clear hK K
        refine norm_ (a' := ?_) ?_ ?_
        rotate_left
        · show Act.put _ (some 32) _ = _
          simp only [Act.put, List.setIfInBounds_toArray, List.set_cons_zero, List.set_cons_succ, i64_w, i32_w]
          rfl
        refine pure_ (i := 16) (N := some 33) (v := ?_) (a' := ?_) #[true, true, true, true, true, true, true, true, true, true, true, true, true, true, true, true, true, false, false, true, true, false, false, false, false, true, true, true, false, false, false, false] rfl rfl (by kernel_rfl) (fun _ _ _ h => h) (Or.inl ⟨by rfl, ?_⟩) ?_ ?_
        rotate_left
        · intro w'
          go_simp
          with_reducible rfl
        rotate_left
        · simp only [Act.put, List.setIfInBounds_toArray, List.set_cons_zero, List.set_cons_succ, i64_w, i32_w]
          rfl
        refine pure_ (i := 17) (N := some 34) (v := ?_) (a' := ?_) #[true, true, true, true, true, true, true, true, true, true, true, true, true, true, true, true, true, true, false, true, true, false, false, false, false, true, true, true, false, false, false, false] rfl rfl (by kernel_rfl) (fun _ _ _ h => h) (Or.inl ⟨by rfl, ?_⟩) ?_ ?_
        rotate_left
        · intro w'
          go_simp
          with_reducible rfl
        rotate_left
        · simp only [Act.put, List.setIfInBounds_toArray, List.set_cons_zero, List.set_cons_succ, i64_w, i32_w]
          rfl
        refine one_ (i := 18) (N := some 35) #[true, true, true, true, true, true, true, true, true, true, true, true, true, true, true, true, true, true, true, true, true, false, false, false, false, true, true, true, false, false, false, false] rfl rfl (by kernel_rfl) (by decide) (fun K hK => ?_)
        refine goes_ Tryd.func39 (by kernel_rfl) rfl #[] (by rfl) rfl rfl (by (try simp only [List.map_toArray, List.map_cons, List.map_nil]); first | done | rfl) ?_
        with_reducible refine (impl_whats.calls ws _ HWS.out).mono ?_
        rintro e w18 ⟨v18, rfl, ho0, hb⟩
        refine ⟨_, rfl, ?_⟩
        have n1_ := Aside0.mk (blk_below (g := wo.heap.size) (o := .cells #[.int .i16 E0, .int .i8 E1, .int .i8 E2, .int .u8 E3, .int .i16 E4] 61 (0, 0)) BK.out hb)
        have n2_ := Aside0.mk (below_step HB.out hb)
        clear BK HB
        have BK := n1_
        have HB := n2_
        clear n1_ n2_
        have HO := Aside0.mk ho0
        clear ho0 hb
        obtain ⟨Ao, co, eo⟩ := Kd.R_slice HO.out
        subst eo
        obtain ⟨adW, eW, hxW⟩ := Kd.at_string (Kd.R_reads' HO.out).2.2 E3 (of_eq_true p3) (of_eq_true q3)
        cases eW
        rw [← HW0.out] at hxW
        refine hK.out _ _ ⟨(blk_cell BK.out 0).trans rfl, (blk_cell BK.out 1).trans rfl, (blk_cell BK.out 2).trans rfl, (blk_cell BK.out 3).trans rfl, (blk_cell BK.out 4).trans rfl⟩ (fun hHeld => ?_)
        clear hK K
        refine norm_ (a' := ?_) ?_ ?_
        rotate_left
        · show Act.put _ (some 35) _ = _
          simp only [Act.put, List.setIfInBounds_toArray, List.set_cons_zero, List.set_cons_succ, i64_w, i32_w]
          rfl
        refine pure_ (i := 21) (N := some 38) (v := ?_) (a' := ?_) #[true, true, true, true, true, true, true, true, true, true, true, true, true, true, true, true, true, true, true, true, true, true, false, false, false, true, true, true, false, false, false, false] rfl rfl (by kernel_rfl) (fun _ _ _ h => h) (Or.inl ⟨by rfl, ?_⟩) ?_ ?_
        rotate_left
        · intro w'
          go_simp
          with_reducible rfl
        rotate_left
        · simp only [Act.put, List.setIfInBounds_toArray, List.set_cons_zero, List.set_cons_succ, i64_w, i32_w]
          rfl
        refine join_ (σ := Unit) 3 #[true, true, true, true, true, true, true, true, true, true, true, true, true, true, true, true, true, true, true, true, true, true, true, true, true, true, true, true, true, false, false, false] (fun s_ => [(39, .string W0), (40, .string ((((((t0 ++ (⟨#[32]⟩ : ByteArray)) ++ t1) ++ (⟨#[62]⟩ : ByteArray)) ++ t2) ++ (⟨#[32]⟩ : ByteArray)) ++ W0)), (41, .string (((((((t0 ++ (⟨#[32]⟩ : ByteArray)) ++ t1) ++ (⟨#[62]⟩ : ByteArray)) ++ t2) ++ (⟨#[32]⟩ : ByteArray)) ++ W0) ++ (⟨#[32]⟩ : ByteArray))), (45, .string t4)]) (fun s_ w' => (w'.cell? ⟨wo.heap.size, 0, none⟩ = some (.int .i16 E0) ∧ w'.cell? ⟨wo.heap.size, 1, none⟩ = some (.int .i8 E1) ∧ w'.cell? ⟨wo.heap.size, 2, none⟩ = some (.int .i8 E2) ∧ w'.cell? ⟨wo.heap.size, 3, none⟩ = some (.int .u8 E3) ∧ w'.cell? ⟨wo.heap.size, 4, none⟩ = some (.int .i16 E4)) ∧ w'.heap[wo.heap.size]? = some (.cells #[.int .i16 E0, .int .i8 E1, .int .i8 E2, .int .u8 E3, .int .i16 E4] 61 (0, 0)) ∧ Below wo.heap.size wo w') ?_ ?_
        rotate_left
        · intro hCont
          refine two_ (i := 22) (j := 28) (Ni := some 39) (Nj := some 45) #[true, true, true, true, true, true, true, true, true, true, true, true, true, true, true, true, true, true, true, true, true, true, true, false, false, true, true, true, false, false, false, false] #[true, true, true, true, true, true, true, true, true, true, true, true, true, true, true, true, true, true, true, true, true, true, false, false, false, true, true, true, true, false, false, false] rfl rfl rfl rfl (by kernel_rfl) (by decide) (by decide) (fun K hK => ?_) (fun K hK => ?_)
          · skip
            refine value_ (w1 := ?_) (v := ?_) (by rfl) rfl ?_ ?_
            rotate_left 2
            · go_simp
              constructor
              · rfl
              · rfl
            refine hK.out _ _ (hHeld) (fun hHeld => ?_)
            clear hK K
            refine norm_ (a' := ?_) ?_ ?_
            rotate_left
            · show Act.put _ (some 39) _ = _
              simp only [Act.put, List.setIfInBounds_toArray, List.set_cons_zero, List.set_cons_succ, i64_w, i32_w]
              rfl
            refine pure_ (i := 23) (N := some 40) (v := ?_) (a' := ?_) #[true, true, true, true, true, true, true, true, true, true, true, true, true, true, true, true, true, true, true, true, true, true, true, true, false, true, true, true, false, false, false, false] rfl rfl (by kernel_rfl) (fun _ _ _ h => h) (Or.inl ⟨by rfl, ?_⟩) ?_ ?_
            rotate_left
            · intro w'
              go_simp
              with_reducible rfl
            rotate_left
            · simp only [Act.put, List.setIfInBounds_toArray, List.set_cons_zero, List.set_cons_succ, i64_w, i32_w]
              rfl
            refine pure_ (i := 24) (N := some 41) (v := ?_) (a' := ?_) #[true, true, true, true, true, true, true, true, true, true, true, true, true, true, true, true, true, true, true, true, true, true, true, true, true, true, true, true, false, false, false, false] rfl rfl (by kernel_rfl) (fun _ _ _ h => h) (Or.inl ⟨by rfl, ?_⟩) ?_ ?_
            rotate_left
            · intro w'
              go_simp
              with_reducible rfl
            rotate_left
            · simp only [Act.put, List.setIfInBounds_toArray, List.set_cons_zero, List.set_cons_succ, i64_w, i32_w]
              rfl
            refine one_ (i := 28) (N := some 45) #[true, true, true, true, true, true, true, true, true, true, true, true, true, true, true, true, true, true, true, true, true, true, true, true, true, true, true, true, true, false, false, false] rfl rfl (by kernel_rfl) (by decide) (fun K hK => ?_)
            refine goes_ Tryd.func32 (by kernel_rfl) rfl #[.int .i64 (wrap64 E4)] (by rfl) rfl rfl (by (try simp only [List.map_toArray, List.map_cons, List.map_nil]); first | done | rfl) ?_
            with_reducible refine (impl_decimal.calls (wrap64 E4) t4 _ HD4.out (Lw.on HLW.out (HBr.out.trans (HB.out.mono HBr.out.size)))).mono ?_
            rintro e w28 ⟨rfl, hb⟩
            refine ⟨_, rfl, ?_⟩
            have hxW := pw_cell_below hb hxW
            have n1_ := Aside0.mk (blk_below (g := wo.heap.size) (o := .cells #[.int .i16 E0, .int .i8 E1, .int .i8 E2, .int .u8 E3, .int .i16 E4] 61 (0, 0)) BK.out hb)
            have n2_ := Aside0.mk (below_step HB.out hb)
            clear BK HB
            have BK := n1_
            have HB := n2_
            clear n1_ n2_
            clear hb
            refine hK.out _ _ ⟨(blk_cell BK.out 0).trans rfl, (blk_cell BK.out 1).trans rfl, (blk_cell BK.out 2).trans rfl, (blk_cell BK.out 3).trans rfl, (blk_cell BK.out 4).trans rfl⟩ (fun hHeld => ?_)
            clear hK K
            refine norm_ (a' := ?_) ?_ ?_
            rotate_left
            · show Act.put _ (some 45) _ = _
              simp only [Act.put, List.setIfInBounds_toArray, List.set_cons_zero, List.set_cons_succ, i64_w, i32_w]
              rfl
            exact norm_ (by simp only [putAll, Act.put, List.setIfInBounds_toArray, List.set_cons_zero, List.set_cons_succ]) (hCont () _ ⟨hHeld, BK.out, HB.out⟩)
          · skip
            refine goes_ Tryd.func32 (by kernel_rfl) rfl #[.int .i64 (wrap64 E4)] (by rfl) rfl rfl (by (try simp only [List.map_toArray, List.map_cons, List.map_nil]); first | done | rfl) ?_
            with_reducible refine (impl_decimal.calls (wrap64 E4) t4 _ HD4.out (Lw.on HLW.out (HBr.out.trans (HB.out.mono HBr.out.size)))).mono ?_
            rintro e w28 ⟨rfl, hb⟩
            refine ⟨_, rfl, ?_⟩
            have hxW := pw_cell_below hb hxW
            have n1_ := Aside0.mk (blk_below (g := wo.heap.size) (o := .cells #[.int .i16 E0, .int .i8 E1, .int .i8 E2, .int .u8 E3, .int .i16 E4] 61 (0, 0)) BK.out hb)
            have n2_ := Aside0.mk (below_step HB.out hb)
            clear BK HB
            have BK := n1_
            have HB := n2_
            clear n1_ n2_
            clear hb
            refine hK.out _ _ ⟨(blk_cell BK.out 0).trans rfl, (blk_cell BK.out 1).trans rfl, (blk_cell BK.out 2).trans rfl, (blk_cell BK.out 3).trans rfl, (blk_cell BK.out 4).trans rfl⟩ (fun hHeld => ?_)
            clear hK K
            refine norm_ (a' := ?_) ?_ ?_
            rotate_left
            · show Act.put _ (some 45) _ = _
              simp only [Act.put, List.setIfInBounds_toArray, List.set_cons_zero, List.set_cons_succ, i64_w, i32_w]
              rfl
            refine one_ (i := 22) (N := some 39) #[true, true, true, true, true, true, true, true, true, true, true, true, true, true, true, true, true, true, true, true, true, true, true, false, false, true, true, true, true, false, false, false] rfl rfl (by kernel_rfl) (by decide) (fun K hK => ?_)
            refine value_ (w1 := ?_) (v := ?_) (by rfl) rfl ?_ ?_
            rotate_left 2
            · go_simp
              constructor
              · rfl
              · rfl
            refine hK.out _ _ (hHeld) (fun hHeld => ?_)
            clear hK K
            refine norm_ (a' := ?_) ?_ ?_
            rotate_left
            · show Act.put _ (some 39) _ = _
              simp only [Act.put, List.setIfInBounds_toArray, List.set_cons_zero, List.set_cons_succ, i64_w, i32_w]
              rfl
            refine pure_ (i := 23) (N := some 40) (v := ?_) (a' := ?_) #[true, true, true, true, true, true, true, true, true, true, true, true, true, true, true, true, true, true, true, true, true, true, true, true, false, true, true, true, true, false, false, false] rfl rfl (by kernel_rfl) (fun _ _ _ h => h) (Or.inl ⟨by rfl, ?_⟩) ?_ ?_
            rotate_left
            · intro w'
              go_simp
              with_reducible rfl
            rotate_left
            · simp only [Act.put, List.setIfInBounds_toArray, List.set_cons_zero, List.set_cons_succ, i64_w, i32_w]
              rfl
            refine pure_ (i := 24) (N := some 41) (v := ?_) (a' := ?_) #[true, true, true, true, true, true, true, true, true, true, true, true, true, true, true, true, true, true, true, true, true, true, true, true, true, true, true, true, true, false, false, false] rfl rfl (by kernel_rfl) (fun _ _ _ h => h) (Or.inl ⟨by rfl, ?_⟩) ?_ ?_
            rotate_left
            · intro w'
              go_simp
              with_reducible rfl
            rotate_left
            · simp only [Act.put, List.setIfInBounds_toArray, List.set_cons_zero, List.set_cons_succ, i64_w, i32_w]
              rfl
            exact norm_ (by simp only [putAll, Act.put, List.setIfInBounds_toArray, List.set_cons_zero, List.set_cons_succ]) (hCont () _ ⟨hHeld, BK.out, HB.out⟩)
        rintro s_ w90 ⟨hS_, h0_, h1_⟩
        clear BK HB
        have BK := Aside0.mk h0_
        have HB := Aside0.mk h1_
        clear h0_ h1_
        have hHeld := hS_
        refine norm_ (a' := ?_) ?_ ?_
        rotate_left
        · simp only [putAll, Act.put, List.setIfInBounds_toArray, List.set_cons_zero, List.set_cons_succ]
          rfl
        refine pure_ (i := 29) (N := some 46) (v := ?_) (a' := ?_) #[true, true, true, true, true, true, true, true, true, true, true, true, true, true, true, true, true, true, true, true, true, true, true, true, true, true, true, true, true, true, false, false] rfl rfl (by kernel_rfl) (fun _ _ _ h => h) (Or.inl ⟨by rfl, ?_⟩) ?_ ?_
        rotate_left
        · intro w'
          go_simp
          with_reducible rfl
        rotate_left
        · simp only [Act.put, List.setIfInBounds_toArray, List.set_cons_zero, List.set_cons_succ, i64_w, i32_w]
          rfl
        refine pure_ (i := 30) (N := some 47) (v := ?_) (a' := ?_) #[true, true, true, true, true, true, true, true, true, true, true, true, true, true, true, true, true, true, true, true, true, true, true, true, true, true, true, true, true, true, true, false] rfl rfl (by kernel_rfl) (fun _ _ _ h => h) (Or.inl ⟨by rfl, ?_⟩) ?_ ?_
        rotate_left
        · intro w'
          go_simp
          with_reducible rfl
        rotate_left
        · simp only [Act.put, List.setIfInBounds_toArray, List.set_cons_zero, List.set_cons_succ, i64_w, i32_w]
          rfl
        refine last_ (i := 31) (N := some 48) #[true, true, true, true, true, true, true, true, true, true, true, true, true, true, true, true, true, true, true, true, true, true, true, true, true, true, true, true, true, true, true, true] rfl rfl (by kernel_rfl) (by decide) (fun K hK => ?_)
        refine goes_ Tryd.func38 (by kernel_rfl) rfl #[.pointer (some ⟨w1.heap.size, 0, none⟩), .string (((((((((t0 ++ (⟨#[32]⟩ : ByteArray)) ++ t1) ++ (⟨#[62]⟩ : ByteArray)) ++ t2) ++ (⟨#[32]⟩ : ByteArray)) ++ W0) ++ (⟨#[32]⟩ : ByteArray)) ++ t4) ++ (⟨#[10]⟩ : ByteArray))] (by rfl) rfl rfl (by (try simp only [List.map_toArray, List.map_cons, List.map_nil]); first | done | rfl) ?_
        with_reducible refine (HW.out _ (builder_below HIr.out HB.out) (Nat.le_trans HS1.out HB.out.size)).mono ?_
        rintro e w31 ⟨⟨v48, rfl⟩, hI7, hb7⟩
        refine ⟨_, rfl, ?_⟩
        have HI7 := Aside0.mk hI7
        have HB7 := Aside0.mk (HBr.out.trans ((HB.out.mono HBr.out.size).trans (hb7.mono hBw)))
        clear hI7 hb7
        refine hK.out _ _ ?_
        clear hK K
        refine norm_ (a' := ?_) ?_ ?_
        rotate_left
        · show Act.put _ (some 48) _ = _
          simp only [Act.put, List.setIfInBounds_toArray, List.set_cons_zero, List.set_cons_succ, i64_w, i32_w]
          rfl
        refine done_ (by kernel_rfl) ?_
        try go_wp2
        go_roundg (l0.length - (kk + 1))
        case measure => omega
        case rel => exact ⟨kk + 1, by omega, by omega, by go_num, HB7, HI7⟩
      · obtain rfl : kk = l0.length := by omega
        have c0_ : decide ((l0.length : Int) < (l0.length : Int)) = false := decide_eq_false (by omega)
        rw [List.take_length] at HIr
        have HS := Lib.hid (builder_string w1.heap.size w1.heap.size (textE l0) wo HIr.out HS1.out)
        go_wp2_with (go_at_call 40; refine HS.out.mono ?_; rintro e w8 ⟨rfl, hb8⟩)
        go_ret
        exact ⟨rfl, HBr.out.trans (hb8.mono hBw)⟩
end Go.Proofs.YthkifkfnlmjafaaDoor.G
