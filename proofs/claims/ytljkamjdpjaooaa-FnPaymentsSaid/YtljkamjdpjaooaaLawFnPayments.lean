/- The row of FnPayments, out of its pure statement and the walk of its code. -/
import Derived.Test.YtljkamjdpjaooaaRows
import Derived.Test.YtljkamjdpjaooaaRd
import Derived.Test.YtljkamjdpjaooaaSayFnPayments
import Derived.Test.YtljkamjdpjaooaaPureFnPayments
import Derived.WalkKit
import Derived.ProofKit
import Derived.OpenShut
import Derived.ShutString
import Derived.ChangeOld
import Derived.Below
import Derived.SizedLaws
namespace Go.Proofs.Ytljkamjdpjaooaa.fnPayments
open Go.ChangeShapes Go.WideShapes Go.ChangeAt Go.RowKit
open Go.ChangeMaps (open_string shut_string)
open Go.Proofs.Ytljkamjdpjaooaa.G Go.Proofs.YtljkamjdpjaooaaW.PrintWords
set_option linter.unusedVariables false
theorem own : ownKnob Try.prog.godebug = none := by kernel_rfl
theorem laidOut : laidOutB Try.prog = true := by kernel_rfl
theorem c_5 : Try.prog.cellsOf 5 = 1 := by kernel_rfl
theorem opn5 : Rd.Opn Try.prog 5 (Kd.int .u8) (fun x => (0 ≤ x ∧ x ≤ 255)) := ⟨(Rd.opn_int Try.underlying5 c_5).sz, fun h => by
  obtain ⟨y, hy, hw⟩ := (Rd.opn_int Try.underlying5 c_5).go h
  exact ⟨y, hy, Rd.in_u8 hw⟩⟩
set_option maxRecDepth 100000 in
theorem lifted (os : Os) (started : os.Started) (H : Type) (enc : TypeId × Value → H) :
    ReturnsInHanded {} Try.checked os 4 .any (Rows.fnPaymentsSpec.pre6 enc Try.prog Try.f4 Rows.fnPaymentsRow.domain false) (Rows.fnPaymentsSpec.post enc Try.prog Try.f4 false true false false) := by
  refine returnsInHanded_of_change_sized (C := Try.checked) own started (by kernel_rfl) Try.func4
    (ChangeSpec.witness6 (enc := enc) (C := Try.checked) false ⟨#[], #[.slice none 0 0, .slice none 0 0], []⟩ 8 (by kernel_rfl) (by kernel_rfl) (by kernel_rfl) (by kernel_rfl)) ?_
  intro W base args ds gs before hval0 hW hcnd hsz0 _
  have hsz : (DataW.weightsEach Try.prog (Try.f4.params.toList ++ Rows.fnPaymentsSpec.plain.varTypes Try.prog) (ds ++ gs)).all (· ≤ reachBytes) = true := hsz0
  have hval : ∀ (j : Nat) t v, Try.f4.params[j]? = some t → args[j]? = some v → Value.okWide Try.prog W .any base t v := hval0
  have hW' := hW
  obtain ⟨p, q, hA0, hV, rfl, hfz, hnd⟩ := hW
  have hA : DataW.TrodAll enc Try.prog W 0 (fun _ => true) true Try.f4.params.toList args.toList ds p := hA0
  rw [Try.params4] at hA hval hsz
  obtain ⟨v0, vs0, d0, ds0, p0, q0, hargs, rfl, rfl, h0, r0⟩ := trodAll_cons hA
  obtain ⟨v1, vs1, d1, ds1, p1, q1, rfl, rfl, rfl, h1, r1⟩ := trodAll_cons r0
  obtain ⟨rfl, rfl, rfl⟩ := trodAll_nil r1
  obtain rfl : args = #[v0, v1] := by cases args; simp_all
  obtain ⟨rfl, rfl⟩ := trodVars_none hV
  have k0 := h0
  have lt0 : ∀ x ∈ p0, x.block < W.heap.size := by obtain ⟨m, hm⟩ := k0; exact DataW.trod_lt m _ _ _ hm
  obtain ⟨A0, cp0, l0, rfl, cle0, C0, y0, g0⟩ := Rd.arg_slice (j := 0) (t := 32) Try.underlying32 opn5 (hval 0 32 v0 rfl rfl) h0 hsz rfl rfl (B := 1) (by kernel_rfl)
  have k1 := h1
  have lt1 : ∀ x ∈ p1, x.block < W.heap.size := by obtain ⟨m, hm⟩ := k1; exact DataW.trod_lt m _ _ _ hm
  obtain ⟨A1, cp1, l1, rfl, cle1, C1, y1, g1⟩ := Rd.arg_slice (j := 1) (t := 32) Try.underlying32 opn5 (hval 1 32 v1 rfl rfl) h1 hsz rfl rfl (B := 1) (by kernel_rfl)
  clear hA0 hval0 hsz0 hsz
  obtain ⟨kq, hk⟩ := PureFnPayments.FnPayments l0 l1 y0 g0 y1 g1
  refine (laws_FnPayments.calls kq A0 cp0 l0 A1 cp1 l1 true W C0 cle0 C1 cle1 hk rfl).mono fun e W' ⟨he, bel0⟩ => ?_
  have bel : Below W.heap.size W W' := bel0
  subst he
  exact ⟨_, rfl, _, _, _, [], _, [], hW', trodAll_mk1 (shut_bool Try.underlying4 _), (trodAll_cons_mk (Below.trod laidOut (by kernel_rfl) (of_decide_eq_true (by kernel_rfl)) k0 bel lt0) (trodAll_cons_mk (Below.trod laidOut (by kernel_rfl) (of_decide_eq_true (by kernel_rfl)) k1 bel lt1) trodAll_mk0)), rfl, bel.frame _, fun h => by cases h⟩
theorem over : Rows.fnPaymentsRow.holds Try.pinned (OpenSpec.ofChange Rows.fnPaymentsSpec) :=
  OpenClaim.holds_of_wide 4 Try.f4 rfl rfl rfl rfl rfl rfl rfl ⟨rfl, rfl, rfl, rfl, rfl⟩ rfl rfl rfl rfl rfl (by kernel_rfl) Try.func4 (by kernel_rfl)
    (of_decide_eq_true (by kernel_rfl)) (by unfold Func.isWrapper; first | (rw [if_pos (by decide +kernel)]; kernel_rfl) | (rw [if_neg (by decide +kernel)]; exact ⟨rfl, rfl⟩))
    (fun os started H enc _ => lifted os started H enc)
theorem proved : Rows.FnPaymentsSaid := over
#print axioms proved
end Go.Proofs.Ytljkamjdpjaooaa.fnPayments
namespace Go.Proofs.Ytljkamjdpjaooaa
/-- The row, under a short name, for the claim. -/
theorem fnPayments_holds : Rows.FnPaymentsSaid := fnPayments.proved
end Go.Proofs.Ytljkamjdpjaooaa
