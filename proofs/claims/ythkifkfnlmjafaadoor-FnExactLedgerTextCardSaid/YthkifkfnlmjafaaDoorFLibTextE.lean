/- The reference's text of a ledger is the program's. -/
import Derived.Test.YthkifkfnlmjafaaDoorFLibTxt
import Derived.Test.YthkifkfnlmjafaaDoorFTxtL
import Derived.Test.YthkifkfnlmjafaaDoorG1
import Derived.Test.YthkifkfnlmjafaaDoorG1
namespace Go.Proofs.YthkifkfnlmjafaaDoor.G
open Go.RowKit Go.Proofs.YthkifkfnlmjafaaDoorW.PrintWords Go.Proofs.YthkifkfnlmjafaaDoorW.PrintLast Go.Proofs.YthkifkfnlmjafaaDoorW.PrintMore
attribute [local go_sem] max2_int min2_int max_two min_two max_three min_three max_four min_four   -- for this text's walks alone
set_option linter.unusedVariables false
set_option linter.unusedSimpArgs false

open Go.Proofs.YthkifkfnlmjafaaDoor.Wk Go.Proofs.YthkifkfnlmjafaaDoor.Pl
namespace Txt
theorem itoa_dec {x : Int} (h0 : 0 ≤ x) : Lib.itoa x = dec x.toNat := by
  unfold Lib.itoa dec
  rw [if_neg (by omega)]
theorem textE_t (l : List En) (hl : l.length ≤ 80) (hR : ∀ x ∈ l, EnOk x) : Ev (fun k => spec_l06Text.f k l) (B (textE l)) := by
  unfold spec_l06Text.f
  refine ev_steps (F := fun k i (x : ByteArray) => spec_l06Text.l0 k l x i) 0 l.length (Nat.zero_le _) (fun i => B (textE (l.take i))) (B (textE l)) (fun i _ hi hh => ?_) ?_
  · refine Ev.step (fun k => spec_l06Text.l0.eq_2 _ _ _ k) ?_
    have hrd : rd_T61 l (i : Int) = l.getD i z61 := rfl
    have hOk := hR (l.getD i z61) (by rw [getD_lt hi]; exact List.getElem_mem _)
    have hT := textE_len (l.take i) fun x hx => hR x (List.mem_of_mem_take hx)
    rw [List.length_take] at hT
    rw [List.take_succ_eq_append_getElem hi, textE_snoc, ← getD_lt hi z61] at hh
    simp only [hrd, w_i hi (show l.length ≤ 4611686018427387904 by omega)]
    generalize l.getD i z61 = y at hOk hh ⊢
    have o0 := hOk.e0
    have o1 := hOk.e1
    have o2 := hOk.e2
    have o3 := hOk.e3
    have o4 := hOk.e4
    have s0 := dec_len (n := y.f0.toNat) (by omega)
    have s1 := dec_len (n := y.f1.toNat) (by omega)
    have s2 := dec_len (n := y.f2.toNat) (by omega)
    have s4 := dec_len (n := y.f4.toNat) (by omega)
    have s3 := what_len y.f3
    have hwf : spec_l06Words.f = some whatsL := rfl
    have hw0 : rdOf ByteArray.empty whatsL y.f3 = B (what y.f3) := (B_self _).symm
    have hwl : whatsL.length = 5 := rfl
    have e32 : (⟨#[32]⟩ : ByteArray) = B [32] := rfl
    have e62 : (⟨#[62]⟩ : ByteArray) = B [62] := rfl
    have e10 : (⟨#[10]⟩ : ByteArray) = B [10] := rfl
    unfold lineE at hh
    rw [itoa_dec o0.1, itoa_dec o1.1, itoa_dec o2.1, itoa_dec (by omega : 0 ≤ y.f4)] at hh
    generalize what y.f3 = W at *
    generalize textE (l.take i) = T at *
    simp only [w_id (x := y.f0) (by omega) (by omega), w_id (x := y.f1) (by omega) (by omega), w_id (x := y.f2) (by omega) (by omega), w_id (x := y.f4) (by omega) (by omega), e32, e62, e10, hwf, hw0, Option.bind_some]
    have d0 := dec_i (x := y.f0) o0.1 (by omega)
    have d1 := dec_i (x := y.f1) o1.1 (by omega)
    have d2 := dec_i (x := y.f2) o2.1 (by omega)
    have d4 := dec_i (x := y.f4) (by omega) (by omega)
    generalize dec y.f0.toNat = D0 at *
    generalize dec y.f1.toNat = D1 at *
    generalize dec y.f2.toNat = D2 at *
    generalize dec y.f4.toNat = D4 at *
    refine ifp (by omega) (ifp (by omega) (Ev.bind d0 ?_))
    refine ifp (by simp only [B_size, List.length_append, List.length_cons, List.length_nil]; omega) (Ev.bind d1 ?_)
    simp only [B_append]
    refine ifp (by simp only [B_size, List.length_append, List.length_cons, List.length_nil]; omega) (ifp (by simp only [B_size, List.length_append, List.length_cons, List.length_nil]; omega) (Ev.bind d2 ?_))
    simp only [B_append]
    refine ifp (by simp only [B_size, List.length_append, List.length_cons, List.length_nil]; omega) (ifp (by simp only [B_size, List.length_append, List.length_cons, List.length_nil]; omega) ?_)
    refine ifp o3.1 (ifp (by rw [hwl]; omega) ?_)
    refine ifp (by simp only [B_size, List.length_append, List.length_cons, List.length_nil]; omega) (ifp (by simp only [B_size, List.length_append, List.length_cons, List.length_nil]; omega) (Ev.bind d4 ?_))
    simp only [B_append]
    refine ifp (by simp only [B_size, List.length_append, List.length_cons, List.length_nil]; omega) (ifp (by simp only [B_size, List.length_append, List.length_cons, List.length_nil]; omega) (ifp (by simp only [B_size, List.length_append, List.length_cons, List.length_nil]; omega) ?_))
    simp only [List.append_assoc] at hh ⊢
    exact hh
  · refine Ev.step (fun k => spec_l06Text.l0.eq_2 _ _ _ k) ?_
    rw [List.take_length]
    exact ifn (by omega) (Ev.now _)
theorem impl_ledger_t {l : List En} (hr : l.all rngB = true) (hl : l.length ≤ 1099511627776) : impl_LedgerText.f l = some (B (if ledgerB 6 l = true then textE l else [])) := by
  unfold impl_LedgerText.f
  rw [if_pos ⟨hr, hl⟩]
  split <;> rfl
end Txt
end Go.Proofs.YthkifkfnlmjafaaDoor.G
