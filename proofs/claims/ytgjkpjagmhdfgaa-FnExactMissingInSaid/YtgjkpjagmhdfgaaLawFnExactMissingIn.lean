/- The row of FnExactMissingIn, out of its pure statement and the walk of its code. -/
import Derived.Test.YtgjkpjagmhdfgaaRows
import Derived.Test.YtgjkpjagmhdfgaaRd
import Derived.Test.YtgjkpjagmhdfgaaSayFnExactMissingIn
import Derived.Test.YtgjkpjagmhdfgaaPureFnExactMissingIn
import Derived.WalkKit
import Derived.ProofKit
import Derived.OpenShut
import Derived.ShutString
import Derived.ChangeOld
import Derived.Below
import Derived.SizedLaws
namespace Go.Proofs.Ytgjkpjagmhdfgaa.fnExactMissingIn
open Go.ChangeShapes Go.WideShapes Go.ChangeAt Go.RowKit
open Go.ChangeMaps (open_string shut_string)
open Go.Proofs.Ytgjkpjagmhdfgaa.G Go.Proofs.YtgjkpjagmhdfgaaW.PrintWords
set_option linter.unusedVariables false
theorem own : ownKnob Try.prog.godebug = none := by kernel_rfl
theorem laidOut : laidOutB Try.prog = true := by kernel_rfl
theorem c_65 : Try.prog.cellsOf 65 = 5 := by kernel_rfl
theorem c_61 : Try.prog.cellsOf 61 = 1 := by kernel_rfl
theorem c_51 : Try.prog.cellsOf 51 = 1 := by kernel_rfl
theorem c_5 : Try.prog.cellsOf 5 = 1 := by kernel_rfl
theorem opn65 : Rd.Opn Try.prog 65 k65 (SayFnExactMissingIn.Ok65) := ⟨by rw [c_65]; rfl, fun {H enc w base spare held fuel cs x} h => by
  obtain ⟨xs, n, _, rfl, hl, hlen, hf⟩ := DataW.trod_struct Try.underlying65 h
  rw [c_65] at hl
  obtain ⟨c0, c1, c2, c3, c4, rfl⟩ := Rd.list5 hl
  obtain ⟨x0, x1, x2, x3, x4, rfl⟩ := Rd.list5 hlen
  have h0 : DataW.trod enc Try.prog w base spare held n 61 [c0] = some x0 := by simpa [c_61] using hf 0 _ rfl
  obtain ⟨a0, rfl, w0⟩ := Rd.cell_int Try.underlying61 h0
  have h1 : DataW.trod enc Try.prog w base spare held n 51 [c1] = some x1 := by simpa [c_51] using hf 1 _ rfl
  obtain ⟨a1, rfl, w1⟩ := Rd.cell_int Try.underlying51 h1
  have h2 : DataW.trod enc Try.prog w base spare held n 51 [c2] = some x2 := by simpa [c_51] using hf 2 _ rfl
  obtain ⟨a2, rfl, w2⟩ := Rd.cell_int Try.underlying51 h2
  have h3 : DataW.trod enc Try.prog w base spare held n 5 [c3] = some x3 := by simpa [c_5] using hf 3 _ rfl
  obtain ⟨a3, rfl, w3⟩ := Rd.cell_int Try.underlying5 h3
  have h4 : DataW.trod enc Try.prog w base spare held n 61 [c4] = some x4 := by simpa [c_61] using hf 4 _ rfl
  obtain ⟨a4, rfl, w4⟩ := Rd.cell_int Try.underlying61 h4
  exact ⟨⟨a0, a1, a2, a3, a4⟩, k65_mk w _, Rd.in_i16 w0, Rd.in_i8 w1, Rd.in_i8 w2, Rd.in_u8 w3, Rd.in_i16 w4⟩⟩
set_option maxRecDepth 100000 in
theorem lifted (os : Os) (started : os.Started) (H : Type) (enc : TypeId × Value → H) :
    ReturnsInHanded {} Try.checked os 4 .any (Rows.fnExactMissingInSpec.pre6 enc Try.prog Try.f4 Rows.fnExactMissingInRow.domain false) (Rows.fnExactMissingInSpec.post enc Try.prog Try.f4 false true false false) := by
  refine returnsInHanded_of_change_sized (C := Try.checked) own started (by kernel_rfl) Try.func4
    (ChangeSpec.witness6 (enc := enc) (C := Try.checked) false ⟨#[], #[.slice none 0 0, .slice none 0 0], []⟩ 8 (by kernel_rfl) (by kernel_rfl) (by kernel_rfl) (by kernel_rfl)) ?_
  intro W base args ds gs before hval0 hW hcnd hsz0 _
  have hsz : (DataW.weightsEach Try.prog (Try.f4.params.toList ++ Rows.fnExactMissingInSpec.plain.varTypes Try.prog) (ds ++ gs)).all (· ≤ reachBytes) = true := hsz0
  have hval : ∀ (j : Nat) t v, Try.f4.params[j]? = some t → args[j]? = some v → Value.okWide Try.prog W .any base t v := hval0
  have hW' := hW
  obtain ⟨p, q, hA0, hV, rfl, hfz, hnd⟩ := hW
  have hA : DataW.TrodAll enc Try.prog W 0 (fun _ => true) true Try.f4.params.toList args.toList ds p := hA0
  rw [Try.params4] at hA hval hsz
  obtain ⟨v0, vs0, d0, ds0, p0, q0, hargs, rfl, rfl, h0, r0⟩ := trodAll_cons hA
  obtain ⟨v1, vs1, d1, ds1, p1, q1, rfl, rfl, rfl, h1, r1⟩ := trodAll_cons r0
  obtain ⟨rfl, rfl, rfl⟩ := trodAll_nil r1
  obtain rfl : args = #[v0, v1] := by cases args; simp_all
  obtain ⟨rfl, rfl⟩ := trodVars_none hV
  have k0 := h0
  have lt0 : ∀ x ∈ p0, x.block < W.heap.size := by obtain ⟨m, hm⟩ := k0; exact DataW.trod_lt m _ _ _ hm
  obtain ⟨A0, cp0, l0, rfl, cle0, C0, y0, g0⟩ := Rd.arg_slice (j := 0) (t := 33) Try.underlying33 opn65 (hval 0 33 v0 rfl rfl) h0 hsz rfl rfl (B := 8) (by kernel_rfl)
  have k1 := h1
  have lt1 : ∀ x ∈ p1, x.block < W.heap.size := by obtain ⟨m, hm⟩ := k1; exact DataW.trod_lt m _ _ _ hm
  obtain ⟨A1, cp1, l1, rfl, cle1, C1, y1, g1⟩ := Rd.arg_slice (j := 1) (t := 33) Try.underlying33 opn65 (hval 1 33 v1 rfl rfl) h1 hsz rfl rfl (B := 8) (by kernel_rfl)
  clear hA0 hval0 hsz0 hsz
  obtain ⟨kq, hk⟩ := PureFnExactMissingIn.FnExactMissingIn l0 l1 y0 g0 y1 g1
  refine (laws_FnExactMissingIn.calls kq A0 cp0 l0 A1 cp1 l1 true W C0 cle0 C1 cle1 hk).mono fun e W' ⟨he, bel0⟩ => ?_
  have bel : Below W.heap.size W W' := bel0
  subst he
  exact ⟨_, rfl, _, _, _, [], _, [], hW', trodAll_mk1 (shut_bool Try.underlying4 _), (trodAll_cons_mk (Below.trod laidOut (by kernel_rfl) (of_decide_eq_true (by kernel_rfl)) k0 bel lt0) (trodAll_cons_mk (Below.trod laidOut (by kernel_rfl) (of_decide_eq_true (by kernel_rfl)) k1 bel lt1) trodAll_mk0)), rfl, bel.frame _, fun h => by cases h⟩
theorem over : Rows.fnExactMissingInRow.holds Try.pinned (OpenSpec.ofChange Rows.fnExactMissingInSpec) :=
  OpenClaim.holds_of_wide 4 Try.f4 rfl rfl rfl rfl rfl rfl rfl ⟨rfl, rfl, rfl, rfl, rfl⟩ rfl rfl rfl rfl rfl (by kernel_rfl) Try.func4 (by kernel_rfl)
    (of_decide_eq_true (by kernel_rfl)) (by unfold Func.isWrapper; first | (rw [if_pos (by decide +kernel)]; kernel_rfl) | (rw [if_neg (by decide +kernel)]; exact ⟨rfl, rfl⟩))
    (fun os started H enc _ => lifted os started H enc)
theorem proved : Rows.FnExactMissingInSaid := over
#print axioms proved
end Go.Proofs.Ytgjkpjagmhdfgaa.fnExactMissingIn
namespace Go.Proofs.Ytgjkpjagmhdfgaa
/-- The row, under a short name, for the claim. -/
theorem fnExactMissingIn_holds : Rows.FnExactMissingInSaid := fnExactMissingIn.proved
end Go.Proofs.Ytgjkpjagmhdfgaa
