/- impl.bestOrder$1. -/
import Derived.Test.YtngpjamojkneeaaG0
import Derived.Test.YtngpjamojkneeaaPl
import Derived.Test.YtngpjamojkneeaaBestLib
namespace Go.Proofs.Ytngpjamojkneeaa.G
open Go.RowKit Go.Proofs.YtngpjamojkneeaaW.PrintWords Go.Proofs.YtngpjamojkneeaaW.PrintLast Go.Proofs.YtngpjamojkneeaaW.PrintMore
attribute [local go_sem] max2_int min2_int max_two min_two max_three min_three max_four min_four   -- for this text's walks alone
set_option linter.unusedVariables false
set_option linter.unusedSimpArgs false

open Go.Proofs.Ytngpjamojkneeaa.Wk Go.Proofs.Ytngpjamojkneeaa.Pl Go.Proofs.Ytngpjamojkneeaa.Best
namespace Best
section
variable {P : Program} {ops : Array Oper} {Q : Exit → Act → World → Prop}
/-- A call of a closure that lies in a slot, as one step of a region that draws. -/
theorem goesF_ {oi : Oper} {N : Option Tmp} {a : Act} {w : World} {K : Act → World → Prop} {f : FuncId} {fn : Func} {tt : Tmp} {cb : Array Value} {os_ : Array Operand} {ts : Array TypeId} (hf : P.funcs[f]? = some fn) (hname : (fn.name == "runtime.NumGoroutine") = false) (hb : fn.body.isSome = true) (args : Array Value)
    (hw : Region.wanted oi (yielded ops a.tmps) = true) (hN : oi.dst = N) (hop : oi.op = .call { callee := .value (.tmp tt), args := os_, argTypes := ts }) (hv : a.eval (.tmp tt) = .func (.func f) #[] cb) (hargs : os_.map a.eval = args)
    (h : Calls P f (args ++ cb) w fun e w' => ∃ v, e = .returned v ∧ K (a.put N v) w') : if Region.wanted oi (yielded ops a.tmps) = true then Oper.wp P oi a w K Q else K (a.put N undef) w := by
  refine call_ f (args ++ cb) hw hN ?_ h
  have he := enters_ hf hname hb (args ++ cb) w
  unfold execOp
  simp [hop, resolve, Deferred.ofValue, invoke, hv, hargs, he]
end
set_option maxHeartbeats 2000000 in
set_option maxRecDepth 100000 in
theorem ahead (i s q : Nat) (a0 a1 : Addr) (A : Option Addr) (c : Nat) (pr : List (List Int)) (w : World) (h0 : w.cell? a0 = some (.int .i64 q)) (h1 : w.cell? a1 = some (.slice A q c)) (hC : Kd.C (Kd.slice 2 (Kd.int .i64)) w A q pr) (hrow : (pr.getD i []).length = q) (hi : i < q) (hq : q ≤ 8) (hs : s < 256) :
    Calls Try.prog 60 #[.int .i64 i, .int .i64 s, .pointer (some a0), .pointer (some a1)] w fun e w' => e = .returned (.int .i64 (ahdN pr i s q)) ∧ w = w' := by
  have hlen := hC.1
  obtain ⟨ad, A0, c0, rfl, x0, hc0, hC0⟩ := at_L1 hC (i : Int) (by omega) (by omega)
  rw [Int.toNat_natCast] at x0
  have hrd : rd_L1 pr (i : Int) = pr.getD i [] := rfl
  rw [hrd] at x0 hc0 hC0
  have hi' : (i : Int) < (q : Int) := by omega
  have HR := Lib.hid hrow
  rw [hrow] at x0
  have HC0 := Aside0.mk hC0
  clear hrow hrd hC hC0 hlen
  go_enter Try.func60, Try.ntmps60
  go_wp2
  go_loop [7, 10] (fun t k => ∃ k' : Nat, k' ≤ q ∧ k = .int .i64 k' ∧ t = .int .i64 (ahdN pr i s k')) (fun _ k => q - (intOf k).toNat)
  case atStart => exact ⟨0, Nat.zero_le _, rfl, rfl⟩
  case round =>
    obtain ⟨k, hk, rfl, rfl⟩ := hrel
    by_cases hlt : k < q
    · have h9 : (k : Int) < (q : Int) := by omega
      obtain ⟨ad0, e0, y0⟩ := Kd.at_int HC0.out (k : Int) (by omega) (by rw [HR.out]; omega)
      subst e0
      rw [Int.toNat_natCast] at y0
      have hrd2 : rd (pr.getD i []) (k : Int) = (pr.getD i []).getD k 0 := rfl
      rw [hrd2] at y0
      clear hrd2
      have hstep : ahdN pr i s (k + 1) = if s.testBit k then wrap64 (ahdN pr i s k + (pr.getD i []).getD k 0) else ahdN pr i s k := stF_succ _ _ _
      have hbit := (bits_at hs (show k < 8 by omega)).1.1
      generalize ahdN pr i s k = acc at hstep
      generalize (pr.getD i []).getD k 0 = x at y0 hstep
      cases hb : s.testBit k
      · rw [hb] at hbit hstep
        have HS := Lib.hid hstep
        clear hstep hb
        go_wp2
        go_round
        case rel => exact ⟨k + 1, by omega, by go_num, by rw [HS.out]; rfl⟩
        case measure => simp [intOf]; omega
      · rw [hb] at hbit hstep
        have HS := Lib.hid hstep
        clear hstep hb
        go_wp2
        go_round
        case rel => exact ⟨k + 1, by omega, by go_num, by rw [HS.out]; rfl⟩
        case measure => simp [intOf]; omega
    · have h9 : ¬ (k : Int) < (q : Int) := by omega
      obtain rfl : k = q := by omega
      go_wp2
      go_ret
      exact ⟨rfl, rfl⟩
end Best
end Go.Proofs.Ytngpjamojkneeaa.G
