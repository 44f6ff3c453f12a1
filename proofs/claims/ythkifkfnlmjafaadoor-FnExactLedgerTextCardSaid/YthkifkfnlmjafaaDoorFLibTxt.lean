/- Plain laws on texts: numbers in decimal, what is put together. -/
import Derived.Test.YthkifkfnlmjafaaDoorPl
import Derived.Lib.ItoaNum
import Derived.Lib.ItoaLen
import Derived.Lib.Join
import Derived.Laws.BytesArg
import Derived.Test.YthkifkfnlmjafaaDoorG1
import Derived.Test.YthkifkfnlmjafaaDoorFTxtA
namespace Go.Proofs.YthkifkfnlmjafaaDoor.G
open Go.RowKit Go.Proofs.YthkifkfnlmjafaaDoorW.PrintWords Go.Proofs.YthkifkfnlmjafaaDoorW.PrintLast Go.Proofs.YthkifkfnlmjafaaDoorW.PrintMore
attribute [local go_sem] max2_int min2_int max_two min_two max_three min_three max_four min_four   -- for this text's walks alone
set_option linter.unusedVariables false
set_option linter.unusedSimpArgs false

open Go.Proofs.YthkifkfnlmjafaaDoor.Wk Go.Proofs.YthkifkfnlmjafaaDoor.Pl
namespace Txt
theorem B_nums (l : List Int) : strOfNums l = B (l.map fun n => UInt8.ofNat n.toNat) := rfl
theorem ifp {α : Type} {c : Prop} [Decidable c] (hc : c) {f g : Nat → Option α} {r : α} (h : Ev f r) : Ev (fun k => if c then f k else g k) r := by
  simp only [if_pos hc]
  exact h
theorem ifn {α : Type} {c : Prop} [Decidable c] (hc : ¬ c) {f g : Nat → Option α} {r : α} (h : Ev g r) : Ev (fun k => if c then f k else g k) r := by
  simp only [if_neg hc]
  exact h
/-- A number in decimal. -/
def dec (n : Nat) : List UInt8 := Lib.decDigits n
theorem dec_len {n : Nat} (h : n ≤ 9223372036854775807) : (dec n).length ≤ 21 := by
  have := Lib.itoa_length_le (n : Int) (by omega) (by omega)
  unfold Lib.itoa at this
  rw [if_neg (by omega), Int.toNat_natCast] at this
  exact this
theorem dec_small {n : Nat} (h : n < 10) : dec n = [UInt8.ofNat (48 + n)] := by unfold dec; rw [Lib.decDigits, dif_pos h]
theorem dec_big {n : Nat} (h : ¬ n < 10) : dec n = dec (n / 10) ++ [UInt8.ofNat (48 + n % 10)] := by unfold dec; rw [Lib.decDigits, dif_neg h]
theorem dig (n : Nat) : strOfNums ([(wrap64 (48 + (Int.tmod (n : Int) 10))) % 256] : List Int) = B [UInt8.ofNat (48 + n % 10)] := by
  have e : (wrap64 (48 + (Int.tmod (n : Int) 10))) % 256 = ((48 + n % 10 : Nat) : Int) := by
    rw [Int.tmod_eq_emod_of_nonneg (by omega), w_id (by omega) (by omega)]
    omega
  rw [e, B_nums]
  rfl
theorem dec_t (n : Nat) (hn : n ≤ 9223372036854775807) : Ev (fun k => spec_Decimal.f k n) (B (dec n)) := by
  induction n using Nat.strongRecOn with
  | _ n ih =>
    refine Ev.step (fun k => spec_Decimal.f.eq_2 _ k) ?_
    by_cases h : n < 10
    · refine ifp (by omega) ?_
      rw [dig, dec_small h, Nat.mod_eq_of_lt h]
      exact Ev.now _
    · refine ifn (by omega) ?_
      have e : wrap64 (Int.tdiv (n : Int) 10) = ((n / 10 : Nat) : Int) := by
        rw [Int.tdiv_eq_ediv_of_nonneg (by omega), w_id (by omega) (by omega)]
        omega
      rw [e]
      refine Ev.bind (ih (n / 10) (by omega) (by omega)) ?_
      have hl := dec_len (n := n / 10) (by omega)
      simp only [Option.bind_some, dig]
      refine ifp (by rw [B_size, B_size, List.length_singleton]; omega) ?_
      rw [B_append, ← dec_big h]
      exact Ev.now _
theorem dec_i {x : Int} (h0 : 0 ≤ x) (h1 : x ≤ 9223372036854775807) : Ev (fun k => spec_Decimal.f k x) (B (dec x.toNat)) := by
  have := dec_t x.toNat (by omega)
  rwa [show ((x.toNat : Nat) : Int) = x by omega] at this
theorem impl_dec {x : Int} (h0 : 0 ≤ x) (h1 : x ≤ 9223372036854775807) : impl_decimal.f x = some (B (dec x.toNat)) := by
  unfold impl_decimal.f
  rw [if_pos (by omega)]
  unfold Lib.itoa
  rw [if_neg (by omega)]
  rfl
theorem impl_dec_neg {x : Int} (h0 : x < 0) (h1 : -9223372036854775808 ≤ x) : impl_decimal.f x = some (B (45 :: dec (-x).toNat)) := by
  unfold impl_decimal.f
  rw [if_pos (by omega)]
  unfold Lib.itoa
  rw [if_pos h0, show x.natAbs = (-x).toNat by omega]
  rfl
end Txt
end Go.Proofs.YthkifkfnlmjafaaDoor.G
