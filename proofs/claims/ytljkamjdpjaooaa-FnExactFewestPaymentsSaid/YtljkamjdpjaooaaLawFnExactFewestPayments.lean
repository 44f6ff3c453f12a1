/- The row of FnExactFewestPayments, out of its pure statement and the walk of its code. -/
import Derived.Test.YtljkamjdpjaooaaRows
import Derived.Test.YtljkamjdpjaooaaRd
import Derived.Test.YtljkamjdpjaooaaSayFnExactFewestPayments
import Derived.Test.YtljkamjdpjaooaaPureFnExactFewestPayments
import Derived.WalkKit
import Derived.ProofKit
import Derived.OpenShut
import Derived.ShutString
import Derived.ChangeOld
import Derived.Below
import Derived.SizedLaws
namespace Go.Proofs.Ytljkamjdpjaooaa.fnExactFewestPayments
open Go.ChangeShapes Go.WideShapes Go.ChangeAt Go.RowKit
open Go.ChangeMaps (open_string shut_string)
open Go.Proofs.Ytljkamjdpjaooaa.G Go.Proofs.YtljkamjdpjaooaaW.PrintWords
set_option linter.unusedVariables false
theorem own : ownKnob Try.prog.godebug = none := by kernel_rfl
theorem laidOut : laidOutB Try.prog = true := by kernel_rfl
theorem c_2 : Try.prog.cellsOf 2 = 1 := by kernel_rfl
theorem opn2 : Rd.Opn Try.prog 2 (Kd.int .i64) (fun x => ((-9223372036854775808) ≤ x ∧ x ≤ 9223372036854775807)) := ⟨(Rd.opn_int Try.underlying2 c_2).sz, fun h => by
  obtain ⟨y, hy, hw⟩ := (Rd.opn_int Try.underlying2 c_2).go h
  exact ⟨y, hy, Rd.in_i64 hw⟩⟩
set_option maxRecDepth 100000 in
theorem lifted (os : Os) (started : os.Started) (H : Type) (enc : TypeId × Value → H) :
    ReturnsInHanded {} Try.checked os 3 .any (Rows.fnExactFewestPaymentsSpec.pre6 enc Try.prog Try.f3 Rows.fnExactFewestPaymentsRow.domain false) (Rows.fnExactFewestPaymentsSpec.post enc Try.prog Try.f3 false true false false) := by
  refine returnsInHanded_of_change_sized (C := Try.checked) own started (by kernel_rfl) Try.func3
    (ChangeSpec.witness6 (enc := enc) (C := Try.checked) false ⟨#[], #[.slice none 0 0], []⟩ 8 (by kernel_rfl) (by kernel_rfl) (by kernel_rfl) (by kernel_rfl)) ?_
  intro W base args ds gs before hval0 hW hcnd hsz0 _
  have hsz : (DataW.weightsEach Try.prog (Try.f3.params.toList ++ Rows.fnExactFewestPaymentsSpec.plain.varTypes Try.prog) (ds ++ gs)).all (· ≤ reachBytes) = true := hsz0
  have hval : ∀ (j : Nat) t v, Try.f3.params[j]? = some t → args[j]? = some v → Value.okWide Try.prog W .any base t v := hval0
  have hW' := hW
  obtain ⟨p, q, hA0, hV, rfl, hfz, hnd⟩ := hW
  have hA : DataW.TrodAll enc Try.prog W 0 (fun _ => true) true Try.f3.params.toList args.toList ds p := hA0
  rw [Try.params3] at hA hval hsz
  obtain ⟨v0, vs0, d0, ds0, p0, q0, hargs, rfl, rfl, h0, r0⟩ := trodAll_cons hA
  obtain ⟨rfl, rfl, rfl⟩ := trodAll_nil r0
  obtain rfl : args = #[v0] := by cases args; simp_all
  obtain ⟨rfl, rfl⟩ := trodVars_none hV
  have k0 := h0
  have lt0 : ∀ x ∈ p0, x.block < W.heap.size := by obtain ⟨m, hm⟩ := k0; exact DataW.trod_lt m _ _ _ hm
  obtain ⟨A0, cp0, l0, rfl, cle0, C0, y0, g0⟩ := Rd.arg_slice (j := 0) (t := 22) Try.underlying22 opn2 (hval 0 22 v0 rfl rfl) h0 hsz rfl rfl (B := 8) (by kernel_rfl)
  clear hA0 hval0 hsz0 hsz
  obtain ⟨kq, hk⟩ := PureFnExactFewestPayments.FnExactFewestPayments l0 y0 g0
  refine (laws_FnExactFewestPayments.calls kq A0 cp0 l0 true W C0 cle0 hk).mono fun e W' ⟨he, bel0⟩ => ?_
  have bel : Below W.heap.size W W' := bel0
  subst he
  exact ⟨_, rfl, _, _, _, [], _, [], hW', trodAll_mk1 (shut_bool Try.underlying4 _), (trodAll_cons_mk (Below.trod laidOut (by kernel_rfl) (of_decide_eq_true (by kernel_rfl)) k0 bel lt0) trodAll_mk0), rfl, bel.frame _, fun h => by cases h⟩
theorem over : Rows.fnExactFewestPaymentsRow.holds Try.pinned (OpenSpec.ofChange Rows.fnExactFewestPaymentsSpec) :=
  OpenClaim.holds_of_wide 3 Try.f3 rfl rfl rfl rfl rfl rfl rfl ⟨rfl, rfl, rfl, rfl, rfl⟩ rfl rfl rfl rfl rfl (by kernel_rfl) Try.func3 (by kernel_rfl)
    (of_decide_eq_true (by kernel_rfl)) (by unfold Func.isWrapper; first | (rw [if_pos (by decide +kernel)]; kernel_rfl) | (rw [if_neg (by decide +kernel)]; exact ⟨rfl, rfl⟩))
    (fun os started H enc _ => lifted os started H enc)
theorem proved : Rows.FnExactFewestPaymentsSaid := over
#print axioms proved
end Go.Proofs.Ytljkamjdpjaooaa.fnExactFewestPayments
namespace Go.Proofs.Ytljkamjdpjaooaa
/-- The row, under a short name, for the claim. -/
theorem fnExactFewestPayments_holds : Rows.FnExactFewestPaymentsSaid := fnExactFewestPayments.proved
end Go.Proofs.Ytljkamjdpjaooaa
