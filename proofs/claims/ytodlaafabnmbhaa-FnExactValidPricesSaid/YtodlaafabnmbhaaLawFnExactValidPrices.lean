/- The row of FnExactValidPrices, out of its pure statement and the walk of its code. -/
import Derived.Test.YtodlaafabnmbhaaRows
import Derived.Test.YtodlaafabnmbhaaRd
import Derived.Test.YtodlaafabnmbhaaSayFnExactValidPrices
import Derived.Test.YtodlaafabnmbhaaPureFnExactValidPrices
import Derived.WalkKit
import Derived.ProofKit
import Derived.OpenShut
import Derived.ShutString
import Derived.ChangeOld
import Derived.Below
import Derived.SizedLaws
namespace Go.Proofs.Ytodlaafabnmbhaa.fnExactValidPrices
open Go.ChangeShapes Go.WideShapes Go.ChangeAt Go.RowKit
open Go.ChangeMaps (open_string shut_string)
open Go.Proofs.Ytodlaafabnmbhaa.G Go.Proofs.YtodlaafabnmbhaaW.PrintWords
set_option linter.unusedVariables false
theorem own : ownKnob Try.prog.godebug = none := by kernel_rfl
theorem laidOut : laidOutB Try.prog = true := by kernel_rfl
theorem c_24 : Try.prog.cellsOf 24 = 2 := by kernel_rfl
theorem c_22 : Try.prog.cellsOf 22 = 1 := by kernel_rfl
theorem opn24 : Rd.Opn Try.prog 24 k24 (SayFnExactValidPrices.Ok24) := ⟨by rw [c_24]; rfl, fun {H enc w base spare held fuel cs x} h => by
  obtain ⟨xs, n, _, rfl, hl, hlen, hf⟩ := DataW.trod_struct Try.underlying24 h
  rw [c_24] at hl
  obtain ⟨c0, c1, rfl⟩ := Rd.list2 hl
  obtain ⟨x0, x1, rfl⟩ := Rd.list2 hlen
  have h0 : DataW.trod enc Try.prog w base spare held n 22 [c0] = some x0 := by simpa [c_22] using hf 0 _ rfl
  obtain ⟨a0, rfl, w0⟩ := Rd.cell_int Try.underlying22 h0
  have h1 : DataW.trod enc Try.prog w base spare held n 22 [c1] = some x1 := by simpa [c_22] using hf 1 _ rfl
  obtain ⟨a1, rfl, w1⟩ := Rd.cell_int Try.underlying22 h1
  exact ⟨⟨a0, a1⟩, k24_mk w _, Rd.in_i16 w0, Rd.in_i16 w1⟩⟩
set_option maxRecDepth 100000 in
theorem lifted (os : Os) (started : os.Started) (H : Type) (enc : TypeId × Value → H) :
    ReturnsInHanded {} Try.checked os 3 .any (Rows.fnExactValidPricesSpec.pre6 enc Try.prog Try.f3 Rows.fnExactValidPricesRow.domain false) (Rows.fnExactValidPricesSpec.post enc Try.prog Try.f3 false true false false) := by
  refine returnsInHanded_of_change_sized (C := Try.checked) own started (by kernel_rfl) Try.func3
    (ChangeSpec.witness6 (enc := enc) (C := Try.checked) false ⟨#[], #[.agg #[.int .i16 0, .int .i16 0]], []⟩ 8 (by kernel_rfl) (by kernel_rfl) (by kernel_rfl) (by kernel_rfl)) ?_
  intro W base args ds gs before hval0 hW hcnd hsz0 _
  have hsz : (DataW.weightsEach Try.prog (Try.f3.params.toList ++ Rows.fnExactValidPricesSpec.plain.varTypes Try.prog) (ds ++ gs)).all (· ≤ reachBytes) = true := hsz0
  have hval : ∀ (j : Nat) t v, Try.f3.params[j]? = some t → args[j]? = some v → Value.okWide Try.prog W .any base t v := hval0
  have hW' := hW
  obtain ⟨p, q, hA0, hV, rfl, hfz, hnd⟩ := hW
  have hA : DataW.TrodAll enc Try.prog W 0 (fun _ => true) true Try.f3.params.toList args.toList ds p := hA0
  rw [Try.params3] at hA hval hsz
  obtain ⟨v0, vs0, d0, ds0, p0, q0, hargs, rfl, rfl, h0, r0⟩ := trodAll_cons hA
  obtain ⟨rfl, rfl, rfl⟩ := trodAll_nil r0
  obtain rfl : args = #[v0] := by cases args; simp_all
  obtain ⟨rfl, rfl⟩ := trodVars_none hV
  have k0 := h0
  have lt0 : ∀ x ∈ p0, x.block < W.heap.size := by obtain ⟨m, hm⟩ := k0; exact DataW.trod_lt m _ _ _ hm
  obtain ⟨y0, cs0, rfl, K0, g0⟩ := Rd.arg_struct Try.underlying24 opn24 (hval 0 24 v0 rfl rfl) h0
  obtain rfl := k24_open K0
  clear hA0 hval0 hsz0 hsz
  have hk := PureFnExactValidPrices.FnExactValidPrices y0.f0 y0.f1 g0.1 g0.2
  refine (laws_FnExactValidPrices.calls y0.f0 y0.f1 true W  hk).mono fun e W' ⟨he, bel0⟩ => ?_
  have bel : Below W.heap.size W W' := bel0
  subst he
  exact ⟨_, rfl, _, _, _, [], _, [], hW', trodAll_mk1 (shut_bool Try.underlying4 _), (trodAll_cons_mk (Below.trod laidOut (by kernel_rfl) (of_decide_eq_true (by kernel_rfl)) k0 bel lt0) trodAll_mk0), rfl, bel.frame _, fun h => by cases h⟩
theorem over : Rows.fnExactValidPricesRow.holds Try.pinned (OpenSpec.ofChange Rows.fnExactValidPricesSpec) :=
  OpenClaim.holds_of_wide 3 Try.f3 rfl rfl rfl rfl rfl rfl rfl ⟨rfl, rfl, rfl, rfl, rfl⟩ rfl rfl rfl rfl rfl (by kernel_rfl) Try.func3 (by kernel_rfl)
    (of_decide_eq_true (by kernel_rfl)) (by unfold Func.isWrapper; first | (rw [if_pos (by decide +kernel)]; kernel_rfl) | (rw [if_neg (by decide +kernel)]; exact ⟨rfl, rfl⟩))
    (fun os started H enc _ => lifted os started H enc)
theorem proved : Rows.FnExactValidPricesSaid := over
#print axioms proved
end Go.Proofs.Ytodlaafabnmbhaa.fnExactValidPrices
namespace Go.Proofs.Ytodlaafabnmbhaa
/-- The row, under a short name, for the claim. -/
theorem fnExactValidPrices_holds : Rows.FnExactValidPricesSaid := fnExactValidPrices.proved
end Go.Proofs.Ytodlaafabnmbhaa
