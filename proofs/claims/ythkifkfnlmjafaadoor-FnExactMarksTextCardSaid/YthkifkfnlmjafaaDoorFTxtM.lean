/- impl.MarksText, walked by hand: each taster's marks in decimal, joined by blanks, written into a builder line by line. -/
import Derived.Test.YthkifkfnlmjafaaDoorG0
import Derived.Test.YthkifkfnlmjafaaDoorWk
import Derived.Test.YthkifkfnlmjafaaDoorPl
import Derived.Test.YthkifkfnlmjafaaDoorFTxtA
import Derived.Test.YthkifkfnlmjafaaDoorFVMarks
namespace Go.Proofs.YthkifkfnlmjafaaDoor.G
open Go.RowKit Go.Proofs.YthkifkfnlmjafaaDoorW.PrintWords Go.Proofs.YthkifkfnlmjafaaDoorW.PrintLast Go.Proofs.YthkifkfnlmjafaaDoorW.PrintMore
attribute [local go_sem] max2_int min2_int max_two min_two max_three min_three max_four min_four   -- for this text's walks alone
set_option linter.unusedVariables false
set_option linter.unusedSimpArgs false

open Go.Proofs.YthkifkfnlmjafaaDoor.Wk Go.Proofs.YthkifkfnlmjafaaDoor.Pl
namespace Txt
/-- The line of a taster. -/
def lineM (own : List Int) : List UInt8 := joinL 32 (own.map Lib.itoa) ++ [10]
def textM (m : List (List Int)) : List UInt8 := (m.map lineM).flatten
theorem textM_snoc (m : List (List Int)) (x : List Int) : textM (m ++ [x]) = textM m ++ lineM x := by simp [textM]
theorem itoa_le {x : Int} (h0 : 0 ≤ x) (h1 : x ≤ 20) : (Lib.itoa x).length ≤ 21 := Lib.itoa_length_le x (by omega) (by omega)
def RowM (x : List Int) : Prop := x.length ≤ 8 ∧ ∀ y ∈ x, 0 ≤ y ∧ y ≤ 20
theorem lineM_len {x : List Int} (h : RowM x) : (lineM x).length ≤ 177 := by
  unfold lineM
  have := joinL_len 32 21 (x.map Lib.itoa) fun y hy => by
    obtain ⟨z, hz, rfl⟩ := List.mem_map.1 hy
    exact itoa_le (h.2 z hz).1 (h.2 z hz).2
  rw [List.length_map] at this
  have h8 := h.1
  rw [List.length_append, List.length_singleton]
  omega
theorem textM_len : ∀ m : List (List Int), (∀ x ∈ m, RowM x) → (textM m).length ≤ 177 * m.length
  | [], _ => by simp [textM]
  | x :: r, h => by
    have h1 := lineM_len (h x (List.mem_cons_self))
    have h2 := textM_len r fun y hy => h y (List.mem_cons_of_mem _ hy)
    unfold textM at h2 ⊢
    rw [List.map_cons, List.flatten_cons, List.length_append, List.length_cons]
    omega
theorem marks_rows {s : Int} {m : List (List Int)} (h : marksB s m = true) : m.length ≤ 12 ∧ ∀ x ∈ m, RowM x := by
  unfold marksB at h
  rw [Bool.and_eq_true, Bool.and_eq_true, inB_iff, decide_eq_true_eq] at h
  refine ⟨h.2.1, fun x hx => ?_⟩
  have := List.all_eq_true.1 h.2.2 x hx
  unfold rowB at this
  rw [Bool.and_eq_true, decide_eq_true_eq] at this
  refine ⟨by have := h.1; omega, fun y hy => ?_⟩
  have h3 := this.2
  unfold allB at h3
  have := List.all_eq_true.1 h3 y hy
  exact inB_iff.1 this
theorem byte_nil : Lib.byteCells [] = [] := rfl
end Txt
open Txt
def impl_MarksText.f (a0 : Int) (l1 : List (List Int)) : Option ByteArray := if marksB a0 l1 = true then some (B (textM l1)) else some (B [])
set_option maxHeartbeats 4000000 in
set_option maxRecDepth 100000 in
theorem impl_MarksText.calls (a0 : Int) (A1 : Option Addr) (c1 : Nat) (l1 : List (List Int)) (r : ByteArray) (w : World) (hr1 : Kd.C (Kd.slice 2 (Kd.int .i64)) w A1 l1.length l1) (hc1 : l1.length ≤ c1) (h : impl_MarksText.f a0 l1 = some r) (hLW : Lw w) :
    Calls Tryd.prog 19 #[.int .i64 a0, .slice A1 l1.length c1] w fun e w' => e = .returned (.string r) ∧ Below w.heap.size w w' := by
  unfold impl_MarksText.f at h
  have HR := Aside0.mk hr1
  have HLW := Aside0.mk hLW
  have HB := Aside0.mk (Below.refl w.heap.size w)
  have HV := Lib.hid (show impl_ValidMarks.f a0 l1 = some (marksB a0 l1) from rfl)
  clear hr1 hLW
  cases hm : marksB a0 l1 with
  | false =>
    rw [hm] at h HV
    rw [if_neg Bool.false_ne_true] at h
    obtain rfl := Option.some.inj h
    clear h hm
    go_enter Tryd.func19, Tryd.ntmps19
    go_wp2_with (go_at_call 46; ((with_reducible refine (impl_ValidMarks.calls a0 A1 c1 l1 false _ HR.out hc1 HV.out).mono ?_); rintro e w1 ⟨rfl, hb1⟩))
    go_ret
    exact ⟨rfl, hb1⟩
  | true =>
    rw [hm] at h HV
    rw [if_pos rfl] at h
    obtain rfl := Option.some.inj h
    obtain ⟨hlen, hrows⟩ := marks_rows hm
    have HROWS := Lib.hid hrows
    clear h hm hrows
    go_enter Tryd.func19, Tryd.ntmps19
    go_wp2_with (go_at_call 46; ((with_reducible refine (impl_ValidMarks.calls a0 A1 c1 l1 true _ HR.out hc1 HV.out).mono ?_); rintro e w1 ⟨rfl, hb1⟩; have HB1 := Aside0.mk hb1; clear hb1))
    refine reletC (F := fun W => Below w.heap.size w W ∧ Lib.IsBuilder 67 5 w1.heap.size w1.heap.size (Lib.byteCells (textM (l1.take 0))) W) ⟨HB1.out.alloc HB1.out.size _, Lib.fresh_isBuilder 67 5 w1⟩ ?_
    rintro w2 ⟨hb2, hI2⟩
    have HB2 := Aside0.mk hb2
    have HI2 := Aside0.mk hI2
    clear hb2 hI2
    have hBw : w.heap.size ≤ w1.heap.size := HB1.out.size
    go_loopg [19] l1.length (fun gg v19 wr => ∃ kk : Nat, kk ≤ l1.length ∧ l1.length - kk ≤ gg ∧ v19 = .int .i64 kk ∧ Aside0 (Below w.heap.size w wr) ∧ Aside0 (Lib.IsBuilder 67 5 w1.heap.size w1.heap.size (Lib.byteCells (textM (l1.take kk))) wr))
    case atStart => exact ⟨0, Nat.zero_le _, by omega, rfl, HB2, HI2⟩
    case round =>
      clear HB1 HB2 HI2
      obtain ⟨kk, hkk, hg, rfl, HBr, HIr⟩ := hrel
      obtain ⟨wo, hwo⟩ : ∃ wo, wo = wr := ⟨_, rfl⟩
      subst hwo
      by_cases hlt : kk < l1.length
      · have c0 : decide ((kk : Int) < (l1.length : Int)) = true := decide_eq_true (by omega)
        obtain ⟨AA, cc, hcell, hrow⟩ := C_rows_cells HR.out
        obtain ⟨ad, hA, hx⟩ := hcell (by omega)
        subst hA
        have x0 := pw_cell_below HBr.out (hx kk hlt)
        obtain ⟨hcc, hCk⟩ := hrow kk hlt
        have hRM : RowM (l1.getD kk []) := HROWS.out _ (by rw [getD_lt hlt]; exact List.getElem_mem _)
        have hT1 : textM (l1.take (kk + 1)) = textM (l1.take kk) ++ lineM (l1.getD kk []) := by
          rw [List.take_succ_eq_append_getElem hlt, textM_snoc, getD_lt hlt]
        have hTl : (textM (l1.take kk)).length ≤ 177 * 12 := by
          have := textM_len (l1.take kk) fun x hx => HROWS.out x (List.mem_of_mem_take hx)
          rw [List.length_take] at this
          omega
        clear hx hcell hrow
        generalize AA kk = Ak at x0 hCk
        generalize cc kk = ck at x0 hcc
        generalize l1.getD kk [] = own at x0 hCk hRM hT1 hcc
        have HT1 := Lib.hid hT1
        have HRM := Lib.hid hRM
        have h8 : own.length ≤ 8 := hRM.1
        have HCk := Aside0.mk hCk
        clear hT1 hRM hCk
        have p0 : (0 : Int) ≤ (kk : Int) := by omega
        go_wp2_with (first | ((with_reducible refine gate_dst (N := 23) rfl ?_); refine Kd.R_lit Kd.string _ 9 ?hg (N := 23) ?hd (xs := ([] : List ByteArray)) (inner := []) (ok := fun _ => True) (okp := fun _ => True) ?hr ?hp (fun _ hk => hk) trivial (Below.refl _ _) (Nat.le_refl _) (by simp) ?_; (case hd => rfl); (case hg => rfl); (case hr => first | (go_simp; done) | (go_simp; rfl)); (case hp => exact (Reps.none _ _)); intro v8 w3 ho3 hb3 hg_ hnew_; clear hg_ hnew_; have HO3 := Aside0.mk ho3; have HB3 := Aside0.mk hb3; clear ho3 hb3))
        go_loopg [8, 26] own.length (fun gg v8 v26 wq => ∃ jj : Nat, jj ≤ own.length ∧ own.length - jj ≤ gg ∧ v26 = .int .i64 jj ∧ Aside0 (Below wo.heap.size wo wq) ∧ Aside0 (Kd.R Kd.string 9 wq wo.heap.size (fun _ => True) v8 ((own.take jj).map fun x => B (Lib.itoa x))))
        case atStart => exact ⟨0, Nat.zero_le _, by omega, rfl, HB3, HO3⟩
        case round =>
          clear HB3 HO3 x0
          obtain ⟨jj, hjj, hg2, rfl, HBq, HOq⟩ := hrel
          have HBw := Aside0.mk (HBr.out.trans (HBq.out.mono HBr.out.size))
          by_cases hlt2 : jj < own.length
          · have c1 : decide ((jj : Int) < (own.length : Int)) = true := decide_eq_true (by omega)
            obtain ⟨ad2, hA2, hx2⟩ := C_int_cells HCk.out (by omega)
            subst hA2
            have y0 := pw_cell_below HBw.out (hx2 jj hlt2)
            clear hx2
            have hy := HRM.out.2 (own.getD jj 0) (by rw [getD_lt hlt2]; exact List.getElem_mem _)
            have hW1 : (own.take (jj + 1)).map (fun x => B (Lib.itoa x)) = (own.take jj).map (fun x => B (Lib.itoa x)) ++ [B (Lib.itoa (own.getD jj 0))] := by
              rw [List.take_succ_eq_append_getElem hlt2, List.map_append, getD_lt hlt2]
              rfl
            have hLM : ((own.take jj).map fun x => B (Lib.itoa x)).length < 8796093022208 := by
              have := HRM.out.1
              rw [List.length_map, List.length_take]
              omega
            generalize own.getD jj 0 = y at y0 hy hW1
            have HD := Lib.hid (show impl_decimal.f y = some (B (Lib.itoa y)) by unfold impl_decimal.f; rw [if_pos (by omega)]; rfl)
            generalize (own.take jj).map (fun x => B (Lib.itoa x)) = ws at HOq hW1 hLM
            generalize B (Lib.itoa y) = yb at HD hW1
            have HW1 := Lib.hid hW1
            have LM := Lib.hid hLM
            clear hW1 hLM hy
            have p1 : (0 : Int) ≤ (jj : Int) := by omega
            go_wp2_with (first | (go_at_call 32; (with_reducible refine (impl_decimal.calls y yb _ HD.out (Lw.on HLW.out HBw.out)).mono ?_); rintro e w4 ⟨rfl, hb4⟩; have n1_ := Aside0.mk (Kd.R_below HOq.out hb4); have n2_ := Aside0.mk (below_step HBq.out hb4); clear HOq HBq HBw; have HOq := n1_; have HBq := n2_; clear n1_ n2_ hb4) | ((with_reducible refine gate_builtin (b := .append) (xs := #[.tmp 30, .tmp 33]) rfl ?_); at_builtin; refine Kd.R_append Kd.string (w0 := wo) wo.heap.size rfl (.tmp 30) (.tmp 33) 56 9 (.string ⟨#[]⟩) 16 rfl Tryd.underlying56 info9 rfl (by decide) (by omega) u8 ws yb [.string yb] (fun _ => True) (fun _ => False) rfl rfl ?aP (fun _ hk => hk.elim) ?aF ?aO ?aB ?aS ?aL ?_; (case aP => exact rfl); (case aB => exact (by repeat (first | (with_reducible first | exact HBq.out | apply below_alloc | apply pw_below_drewN | apply below_drew1) | exact HBq.out))); (case aF => exact (fun _ _ => trivial)); (case aO => exact (by (with_reducible repeat (first | apply Kd.R_alloc | apply Kd.R_drewN | apply Kd.R_drew)); exact HOq.out)); (case aS => exact (below_size (by repeat (first | (with_reducible first | exact HBq.out | apply below_alloc | apply pw_below_drewN | apply below_drew1) | exact HBq.out)))); (case aL => have := LM.out; omega); intro v34 w5 ho hb hg_ hat; rw [← HW1.out] at ho; have HO5 := Aside0.mk ho; have HB5 := Aside0.mk hb; clear ho hb hg_ hat HOq HBq))
            go_roundg (own.length - (jj + 1))
            case measure => omega
            case rel => exact ⟨jj + 1, by omega, by omega, by go_num, HB5, HO5⟩
          · obtain rfl : jj = own.length := by omega
            have c1 : decide ((own.length : Int) < (own.length : Int)) = false := decide_eq_false (by omega)
            rw [List.take_length] at HOq
            have hJ := join_t (own.map Lib.itoa) 32 (by
              have := lineM_len HRM.out
              unfold lineM at this
              rw [List.length_append] at this
              omega) (by rw [List.length_map]; have := HRM.out.1; omega)
            rw [List.map_map] at hJ
            have hsz : (joinL 32 (own.map Lib.itoa)).length ≤ 177 := by
              have := lineM_len HRM.out
              unfold lineM at this
              rw [List.length_append] at this
              omega
            have hcat : B (joinL 32 (own.map Lib.itoa)) ++ (⟨#[10]⟩ : ByteArray) = B (lineM own) := by
              rw [show (⟨#[10]⟩ : ByteArray) = B [10] from rfl, B_append]
              rfl
            have c2 : (9223372036854775807 < (B (joinL 32 (own.map Lib.itoa))).size + 1) = False := eq_false (by rw [B_size]; omega)
            rw [show ((fun x => B (Lib.itoa x)) : Int → ByteArray) = B ∘ Lib.itoa from rfl] at HOq
            generalize B (joinL 32 (own.map Lib.itoa)) = J at hJ hcat c2
            generalize own.map (B ∘ Lib.itoa) = ws at HOq hJ
            have HJ := Lib.hid (show strings_Join.f ws (⟨#[32]⟩ : ByteArray) = some J from hJ)
            have hW : ∀ W, Lib.IsBuilder 67 5 w1.heap.size w1.heap.size (Lib.byteCells (textM (l1.take kk))) W → w1.heap.size ≤ W.heap.size → Calls Tryd.prog 38 #[.pointer (some ⟨w1.heap.size, 0, none⟩), .string (J ++ (⟨#[10]⟩ : ByteArray))] W fun e w' => (∃ v, e = .returned v) ∧ Lib.IsBuilder 67 5 w1.heap.size w1.heap.size (Lib.byteCells (textM (l1.take (kk + 1)))) w' ∧ Below w1.heap.size W w' := by
              intro W hW hB
              rw [hcat, HT1.out]
              refine builder_write _ _ _ _ W hW ?_ hB
              have := lineM_len HRM.out
              omega
            have HW := Lib.hid hW
            clear hJ hW hcat hsz
            obtain ⟨Ao, co, eo⟩ := Kd.R_slice HOq.out
            subst eo
            have hs1 : w1.heap.size ≤ wo.heap.size := by
              obtain h1 | h1 := HIr.out <;> (have := h1.lt; omega)
            have HS1 := Lib.hid hs1
            clear hs1
            go_wp2_with (first | (go_at_call 33; (with_reducible refine (strings_Join.calls _ _ ws (⟨#[32]⟩ : ByteArray) J _ ?side1 ?side2 HJ.out).mono ?_); (case side1 => exact (Kd.R_reads' HOq.out).2.2); (case side2 => exact (Kd.R_reads' HOq.out).2.1); rintro e w6 ⟨rfl, hb6⟩; have n1_ := Aside0.mk (below_step HBq.out hb6); clear HBq; have HBq := n1_; clear n1_ hb6) | (go_at_call 38; refine (HW.out _ (builder_below HIr.out HBq.out) (Nat.le_trans HS1.out HBq.out.size)).mono ?_; rintro e w7 ⟨⟨v40, rfl⟩, hI7, hb7⟩; have HI7 := Aside0.mk hI7; have HB7 := Aside0.mk (HBr.out.trans ((HBq.out.mono HBr.out.size).trans (hb7.mono hBw))); clear hI7 hb7))
            go_roundg (l1.length - (kk + 1))
            case measure => omega
            case rel => exact ⟨kk + 1, by omega, by omega, by go_num, HB7, HI7⟩
      · obtain rfl : kk = l1.length := by omega
        have c0 : decide ((l1.length : Int) < (l1.length : Int)) = false := decide_eq_false (by omega)
        rw [List.take_length] at HIr
        have hs1 : w1.heap.size ≤ wo.heap.size := by
          obtain h1 | h1 := HIr.out <;> (have := h1.lt; omega)
        have HS := Lib.hid (builder_string w1.heap.size w1.heap.size (textM l1) wo HIr.out hs1)
        clear hs1
        go_wp2_with (go_at_call 40; refine HS.out.mono ?_; rintro e w8 ⟨rfl, hb8⟩)
        go_ret
        exact ⟨rfl, HBr.out.trans (hb8.mono hBw)⟩
end Go.Proofs.YthkifkfnlmjafaaDoor.G
