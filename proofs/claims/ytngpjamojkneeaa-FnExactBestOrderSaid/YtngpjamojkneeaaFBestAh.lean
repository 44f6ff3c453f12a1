/- spec.l07Ahead counts what comes ahead. -/
import Derived.Test.YtngpjamojkneeaaBestLib
import Derived.Test.YtngpjamojkneeaaFLibPairs
import Derived.Test.YtngpjamojkneeaaG1
namespace Go.Proofs.Ytngpjamojkneeaa.G
open Go.RowKit Go.Proofs.YtngpjamojkneeaaW.PrintWords Go.Proofs.YtngpjamojkneeaaW.PrintLast Go.Proofs.YtngpjamojkneeaaW.PrintMore
attribute [local go_sem] max2_int min2_int max_two min_two max_three min_three max_four min_four   -- for this text's walks alone
set_option linter.unusedVariables false
set_option linter.unusedSimpArgs false

open Go.Proofs.Ytngpjamojkneeaa.Wk Go.Proofs.Ytngpjamojkneeaa.Pl Go.Proofs.Ytngpjamojkneeaa.Best
namespace Best
theorem shrB : (List.range 256).all (fun s => (List.range 8).all fun i => decide (bits BinOp.and IntKind.i64 (shr .i64 (s : Int) (i : Int)) 1 = 1) == s.testBit i) = true := by decide +kernel
theorem shr_at {s n : Nat} (hs : s < 256) (hn : n < 8) : decide (bits BinOp.and IntKind.i64 (shr .i64 (s : Int) (n : Int)) 1 = 1) = s.testBit n := by
  have h1 := List.all_eq_true.1 shrB s (List.mem_range.2 hs)
  have h2 := List.all_eq_true.1 h1 n (List.mem_range.2 hn)
  exact beq_iff_eq.1 h2
theorem w_succ {n : Nat} (h : n < 8) : wrap64 ((n : Int) + 1) = ((n + 1 : Nat) : Int) := by rw [Go.IntWalk.wrap64_in _ ⟨by omega, by omega⟩]; omega
theorem ahead_l0 {pr : List (List Int)} {q : Nat} (hsq : Sq q pr) (hq : q ≤ 8) (i s : Nat) (hi : i < q) (hs : s < 256) : ∀ d n k, n + d = q → d < k → spec_l07Ahead.l0 k pr i s (ahdN pr i s n) n = some (ahdN pr i s q)
  | 0, n, k + 1, hn, _ => by
    obtain rfl : n = q := by omega
    rw [spec_l07Ahead.l0, if_neg (by rw [hsq.1]; omega)]
  | d + 1, n, k + 1, hn, hk => by
    have hrow := hsq.2 i hi
    have c1 : (n : Int) < (pr.length : Int) := by rw [hsq.1]; omega
    have c2 : (0 : Int) ≤ (n : Int) := by omega
    have c3 : (0 : Int) ≤ (i : Int) := by omega
    have c4 : (i : Int) < (pr.length : Int) := by rw [hsq.1]; omega
    have c5 : (n : Int) < ((pr.getD i []).length : Int) := by rw [hrow]; omega
    have hn8 : n < 8 := by omega
    have hb := shr_at hs hn8
    have ih := ahead_l0 hsq hq i s hi hs d (n + 1) k (by omega) (by omega)
    have hu := u64_i (Nat.lt_trans hn8 (by decide))
    have hstep : ahdN pr i s (n + 1) = if s.testBit n then wrap64 (ahdN pr i s n + (pr.getD i []).getD n 0) else ahdN pr i s n := stF_succ _ _ _
    have hw := w_succ hn8
    have hrd : rd_L1 pr (i : Int) = pr.getD i [] := rfl
    have hrd2 : rd (pr.getD i []) (n : Int) = (pr.getD i []).getD n 0 := rfl
    rw [spec_l07Ahead.l0.eq_2]
    simp only [hu, hw, hrd, hrd2, if_pos c1, if_pos c2, if_pos c3, if_pos c4, if_pos c5]
    cases hbt : s.testBit n
    · rw [hbt] at hb hstep
      rw [if_neg (of_decide_eq_false hb)]
      rw [hstep, if_neg (by simp)] at ih
      exact ih
    · rw [hbt] at hb hstep
      rw [if_pos (of_decide_eq_true hb)]
      rw [hstep, if_pos rfl] at ih
      exact ih
theorem ahead_tells {pr : List (List Int)} {q : Nat} (hsq : Sq q pr) (hq : q ≤ 8) (i s : Nat) (hi : i < q) (hs : s < 256) : spec_l07Ahead.f 9 pr i s = some (ahdN pr i s q) := ahead_l0 hsq hq i s hi hs q 0 9 (by omega) (by omega)
end Best
end Go.Proofs.Ytngpjamojkneeaa.G
