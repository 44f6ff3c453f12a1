/- The row of FnExactSumOrder, out of its pure statement and the walk of its code. -/
import Derived.Test.YtngpjamojkneeaaRows
import Derived.Test.YtngpjamojkneeaaRd
import Derived.Test.YtngpjamojkneeaaSayFnExactSumOrder
import Derived.Test.YtngpjamojkneeaaPureFnExactSumOrder
import Derived.WalkKit
import Derived.ProofKit
import Derived.OpenShut
import Derived.ShutString
import Derived.ChangeOld
import Derived.Below
import Derived.SizedLaws
namespace Go.Proofs.Ytngpjamojkneeaa.fnExactSumOrder
open Go.ChangeShapes Go.WideShapes Go.ChangeAt Go.RowKit
open Go.ChangeMaps (open_string shut_string)
open Go.Proofs.Ytngpjamojkneeaa.G Go.Proofs.YtngpjamojkneeaaW.PrintWords
set_option linter.unusedVariables false
theorem own : ownKnob Try.prog.godebug = none := by kernel_rfl
theorem laidOut : laidOutB Try.prog = true := by kernel_rfl
theorem c_24 : Try.prog.cellsOf 24 = 1 := by kernel_rfl
theorem c_2 : Try.prog.cellsOf 2 = 1 := by kernel_rfl
theorem opn2 : Rd.Opn Try.prog 2 (Kd.int .i64) (fun x => ((-9223372036854775808) ≤ x ∧ x ≤ 9223372036854775807)) := ⟨(Rd.opn_int Try.underlying2 c_2).sz, fun h => by
  obtain ⟨y, hy, hw⟩ := (Rd.opn_int Try.underlying2 c_2).go h
  exact ⟨y, hy, Rd.in_i64 hw⟩⟩
theorem opn24 : Rd.Opn Try.prog 24 (Kd.slice 2 (Kd.int .i64)) (fun x => (x.length ≤ 9223372036854775807 ∧ ∀ x1 ∈ x, ((-9223372036854775808) ≤ x1 ∧ x1 ≤ 9223372036854775807))) := Rd.opn_slice Try.underlying24 c_24 opn2
set_option maxRecDepth 100000 in
theorem lifted (os : Os) (started : os.Started) (H : Type) (enc : TypeId × Value → H) :
    ReturnsInHanded {} Try.checked os 5 .any (Rows.fnExactSumOrderSpec.pre6 enc Try.prog Try.f5 Rows.fnExactSumOrderRow.domain false) (Rows.fnExactSumOrderSpec.post enc Try.prog Try.f5 false true false false) := by
  refine returnsInHanded_of_change_sized (C := Try.checked) own started (by kernel_rfl) Try.func5
    (ChangeSpec.witness6 (enc := enc) (C := Try.checked) false ⟨#[], #[.int .i64 0, .slice none 0 0], []⟩ 8 (by kernel_rfl) (by kernel_rfl) (by kernel_rfl) (by kernel_rfl)) ?_
  intro W base args ds gs before hval0 hW hcnd hsz0 _
  have hsz : (DataW.weightsEach Try.prog (Try.f5.params.toList ++ Rows.fnExactSumOrderSpec.plain.varTypes Try.prog) (ds ++ gs)).all (· ≤ reachBytes) = true := hsz0
  have hval : ∀ (j : Nat) t v, Try.f5.params[j]? = some t → args[j]? = some v → Value.okWide Try.prog W .any base t v := hval0
  have hW' := hW
  obtain ⟨p, q, hA0, hV, rfl, hfz, hnd⟩ := hW
  have hA : DataW.TrodAll enc Try.prog W 0 (fun _ => true) true Try.f5.params.toList args.toList ds p := hA0
  rw [Try.params5] at hA hval hsz
  obtain ⟨v0, vs0, d0, ds0, p0, q0, hargs, rfl, rfl, h0, r0⟩ := trodAll_cons hA
  obtain ⟨v1, vs1, d1, ds1, p1, q1, rfl, rfl, rfl, h1, r1⟩ := trodAll_cons r0
  obtain ⟨rfl, rfl, rfl⟩ := trodAll_nil r1
  obtain rfl : args = #[v0, v1] := by cases args; simp_all
  obtain ⟨rfl, rfl⟩ := trodVars_none hV
  obtain ⟨a0, rfl, rfl, rfl, w0⟩ := open_int Try.underlying2 (hval 0 2 v0 rfl rfl) h0
  have g0 := Rd.in_i64 w0
  have k1 := h1
  have lt1 : ∀ x ∈ p1, x.block < W.heap.size := by obtain ⟨m, hm⟩ := k1; exact DataW.trod_lt m _ _ _ hm
  obtain ⟨A1, cp1, l1, rfl, cle1, C1, y1, g1⟩ := Rd.arg_slice (j := 1) (t := 22) Try.underlying22 opn24 (hval 1 22 v1 rfl rfl) h1 hsz rfl rfl (B := 24) (by kernel_rfl)
  clear hA0 hval0 hsz0 hsz
  have hk := PureFnExactSumOrder.FnExactSumOrder a0 l1 g0 y1 g1
  refine (laws_FnExactSumOrder.calls a0 A1 cp1 l1 true W C1 cle1 hk).mono fun e W' ⟨he, bel0⟩ => ?_
  have bel : Below W.heap.size W W' := bel0
  subst he
  exact ⟨_, rfl, _, _, _, [], _, [], hW', trodAll_mk1 (shut_bool Try.underlying4 _), (trodAll_cons_mk (shut_int Try.underlying2 w0) (trodAll_cons_mk (Below.trod laidOut (by kernel_rfl) (of_decide_eq_true (by kernel_rfl)) k1 bel lt1) trodAll_mk0)), rfl, bel.frame _, fun h => by cases h⟩
theorem over : Rows.fnExactSumOrderRow.holds Try.pinned (OpenSpec.ofChange Rows.fnExactSumOrderSpec) :=
  OpenClaim.holds_of_wide 5 Try.f5 rfl rfl rfl rfl rfl rfl rfl ⟨rfl, rfl, rfl, rfl, rfl⟩ rfl rfl rfl rfl rfl (by kernel_rfl) Try.func5 (by kernel_rfl)
    (of_decide_eq_true (by kernel_rfl)) (by unfold Func.isWrapper; first | (rw [if_pos (by decide +kernel)]; kernel_rfl) | (rw [if_neg (by decide +kernel)]; exact ⟨rfl, rfl⟩))
    (fun os started H enc _ => lifted os started H enc)
theorem proved : Rows.FnExactSumOrderSaid := over
#print axioms proved
end Go.Proofs.Ytngpjamojkneeaa.fnExactSumOrder
namespace Go.Proofs.Ytngpjamojkneeaa
/-- The row, under a short name, for the claim. -/
theorem fnExactSumOrder_holds : Rows.FnExactSumOrderSaid := fnExactSumOrder.proved
end Go.Proofs.Ytngpjamojkneeaa
