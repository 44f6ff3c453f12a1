/- The row of FnExactReplayLedger, out of its pure statement and the walk of its code. -/
import Derived.Test.YtncbgnlojabpfaaRows
import Derived.Test.YtncbgnlojabpfaaRd
import Derived.Test.YtncbgnlojabpfaaSayFnExactReplayLedger
import Derived.Test.YtncbgnlojabpfaaPureFnExactReplayLedger
import Derived.WalkKit
import Derived.ProofKit
import Derived.OpenShut
import Derived.ShutString
import Derived.ChangeOld
import Derived.Below
import Derived.SizedLaws
namespace Go.Proofs.Ytncbgnlojabpfaa.fnExactReplayLedger
open Go.ChangeShapes Go.WideShapes Go.ChangeAt Go.RowKit
open Go.ChangeMaps (open_string shut_string)
open Go.Proofs.Ytncbgnlojabpfaa.G Go.Proofs.YtncbgnlojabpfaaW.PrintWords
set_option linter.unusedVariables false
theorem own : ownKnob Try.prog.godebug = none := by kernel_rfl
theorem laidOut : laidOutB Try.prog = true := by kernel_rfl
theorem c_24 : Try.prog.cellsOf 24 = 2 := by kernel_rfl
theorem c_22 : Try.prog.cellsOf 22 = 1 := by kernel_rfl
theorem opn24 : Rd.Opn Try.prog 24 k24 (SayFnExactReplayLedger.Ok24) := ⟨by rw [c_24]; rfl, fun {H enc w base spare held fuel cs x} h => by
  obtain ⟨xs, n, _, rfl, hl, hlen, hf⟩ := DataW.trod_struct Try.underlying24 h
  rw [c_24] at hl
  obtain ⟨c0, c1, rfl⟩ := Rd.list2 hl
  obtain ⟨x0, x1, rfl⟩ := Rd.list2 hlen
  have h0 : DataW.trod enc Try.prog w base spare held n 22 [c0] = some x0 := by simpa [c_22] using hf 0 _ rfl
  obtain ⟨a0, rfl, w0⟩ := Rd.cell_int Try.underlying22 h0
  have h1 : DataW.trod enc Try.prog w base spare held n 22 [c1] = some x1 := by simpa [c_22] using hf 1 _ rfl
  obtain ⟨a1, rfl, w1⟩ := Rd.cell_int Try.underlying22 h1
  exact ⟨⟨a0, a1⟩, k24_mk w _, Rd.in_i16 w0, Rd.in_i16 w1⟩⟩
theorem c_73 : Try.prog.cellsOf 73 = 5 := by kernel_rfl
theorem c_2 : Try.prog.cellsOf 2 = 1 := by kernel_rfl
theorem opn73 : Rd.Opn Try.prog 73 k73 (SayFnExactReplayLedger.Ok73) := ⟨by rw [c_73]; rfl, fun {H enc w base spare held fuel cs x} h => by
  obtain ⟨xs, n, _, rfl, hl, hlen, hf⟩ := DataW.trod_struct Try.underlying73 h
  rw [c_73] at hl
  obtain ⟨c0, c1, c2, c3, c4, rfl⟩ := Rd.list5 hl
  obtain ⟨x0, x1, x2, x3, x4, rfl⟩ := Rd.list5 hlen
  have h0 : DataW.trod enc Try.prog w base spare held n 2 [c0] = some x0 := by simpa [c_2] using hf 0 _ rfl
  obtain ⟨a0, rfl, w0⟩ := Rd.cell_int Try.underlying2 h0
  have h1 : DataW.trod enc Try.prog w base spare held n 2 [c1] = some x1 := by simpa [c_2] using hf 1 _ rfl
  obtain ⟨a1, rfl, w1⟩ := Rd.cell_int Try.underlying2 h1
  have h2 : DataW.trod enc Try.prog w base spare held n 2 [c2] = some x2 := by simpa [c_2] using hf 2 _ rfl
  obtain ⟨a2, rfl, w2⟩ := Rd.cell_int Try.underlying2 h2
  have h3 : DataW.trod enc Try.prog w base spare held n 2 [c3] = some x3 := by simpa [c_2] using hf 3 _ rfl
  obtain ⟨a3, rfl, w3⟩ := Rd.cell_int Try.underlying2 h3
  have h4 : DataW.trod enc Try.prog w base spare held n 2 [c4] = some x4 := by simpa [c_2] using hf 4 _ rfl
  obtain ⟨a4, rfl, w4⟩ := Rd.cell_int Try.underlying2 h4
  exact ⟨⟨a0, a1, a2, a3, a4⟩, k73_mk w _, Rd.in_i64 w0, Rd.in_i64 w1, Rd.in_i64 w2, Rd.in_i64 w3, Rd.in_i64 w4⟩⟩
theorem c_28 : Try.prog.cellsOf 28 = 5 := by kernel_rfl
theorem c_26 : Try.prog.cellsOf 26 = 1 := by kernel_rfl
theorem c_5 : Try.prog.cellsOf 5 = 1 := by kernel_rfl
theorem opn28 : Rd.Opn Try.prog 28 k28 (SayFnExactReplayLedger.Ok28) := ⟨by rw [c_28]; rfl, fun {H enc w base spare held fuel cs x} h => by
  obtain ⟨xs, n, _, rfl, hl, hlen, hf⟩ := DataW.trod_struct Try.underlying28 h
  rw [c_28] at hl
  obtain ⟨c0, c1, c2, c3, c4, rfl⟩ := Rd.list5 hl
  obtain ⟨x0, x1, x2, x3, x4, rfl⟩ := Rd.list5 hlen
  have h0 : DataW.trod enc Try.prog w base spare held n 22 [c0] = some x0 := by simpa [c_22] using hf 0 _ rfl
  obtain ⟨a0, rfl, w0⟩ := Rd.cell_int Try.underlying22 h0
  have h1 : DataW.trod enc Try.prog w base spare held n 26 [c1] = some x1 := by simpa [c_26] using hf 1 _ rfl
  obtain ⟨a1, rfl, w1⟩ := Rd.cell_int Try.underlying26 h1
  have h2 : DataW.trod enc Try.prog w base spare held n 26 [c2] = some x2 := by simpa [c_26] using hf 2 _ rfl
  obtain ⟨a2, rfl, w2⟩ := Rd.cell_int Try.underlying26 h2
  have h3 : DataW.trod enc Try.prog w base spare held n 5 [c3] = some x3 := by simpa [c_5] using hf 3 _ rfl
  obtain ⟨a3, rfl, w3⟩ := Rd.cell_int Try.underlying5 h3
  have h4 : DataW.trod enc Try.prog w base spare held n 22 [c4] = some x4 := by simpa [c_22] using hf 4 _ rfl
  obtain ⟨a4, rfl, w4⟩ := Rd.cell_int Try.underlying22 h4
  exact ⟨⟨a0, a1, a2, a3, a4⟩, k28_mk w _, Rd.in_i16 w0, Rd.in_i8 w1, Rd.in_i8 w2, Rd.in_u8 w3, Rd.in_i16 w4⟩⟩
set_option maxRecDepth 100000 in
theorem lifted (os : Os) (started : os.Started) (H : Type) (enc : TypeId × Value → H) :
    ReturnsInHanded {} Try.checked os 8 .any (Rows.fnExactReplayLedgerSpec.pre6 enc Try.prog Try.f8 Rows.fnExactReplayLedgerRow.domain false) (Rows.fnExactReplayLedgerSpec.post enc Try.prog Try.f8 false true false false) := by
  refine returnsInHanded_of_change_sized (C := Try.checked) own started (by kernel_rfl) Try.func8
    (ChangeSpec.witness6 (enc := enc) (C := Try.checked) false ⟨#[], #[.agg #[.int .i16 0, .int .i16 0], .slice none 0 0, .slice none 0 0], []⟩ 8 (by kernel_rfl) (by kernel_rfl) (by kernel_rfl) (by kernel_rfl)) ?_
  intro W base args ds gs before hval0 hW hcnd hsz0 _
  have hsz : (DataW.weightsEach Try.prog (Try.f8.params.toList ++ Rows.fnExactReplayLedgerSpec.plain.varTypes Try.prog) (ds ++ gs)).all (· ≤ reachBytes) = true := hsz0
  have hval : ∀ (j : Nat) t v, Try.f8.params[j]? = some t → args[j]? = some v → Value.okWide Try.prog W .any base t v := hval0
  have hW' := hW
  obtain ⟨p, q, hA0, hV, rfl, hfz, hnd⟩ := hW
  have hA : DataW.TrodAll enc Try.prog W 0 (fun _ => true) true Try.f8.params.toList args.toList ds p := hA0
  rw [Try.params8] at hA hval hsz
  obtain ⟨v0, vs0, d0, ds0, p0, q0, hargs, rfl, rfl, h0, r0⟩ := trodAll_cons hA
  obtain ⟨v1, vs1, d1, ds1, p1, q1, rfl, rfl, rfl, h1, r1⟩ := trodAll_cons r0
  obtain ⟨v2, vs2, d2, ds2, p2, q2, rfl, rfl, rfl, h2, r2⟩ := trodAll_cons r1
  obtain ⟨rfl, rfl, rfl⟩ := trodAll_nil r2
  obtain rfl : args = #[v0, v1, v2] := by cases args; simp_all
  obtain ⟨rfl, rfl⟩ := trodVars_none hV
  have k0 := h0
  have lt0 : ∀ x ∈ p0, x.block < W.heap.size := by obtain ⟨m, hm⟩ := k0; exact DataW.trod_lt m _ _ _ hm
  obtain ⟨y0, cs0, rfl, K0, g0⟩ := Rd.arg_struct Try.underlying24 opn24 (hval 0 24 v0 rfl rfl) h0
  obtain rfl := k24_open K0
  have k1 := h1
  have lt1 : ∀ x ∈ p1, x.block < W.heap.size := by obtain ⟨m, hm⟩ := k1; exact DataW.trod_lt m _ _ _ hm
  obtain ⟨A1, cp1, l1, rfl, cle1, C1, y1, g1⟩ := Rd.arg_slice (j := 1) (t := 25) Try.underlying25 opn73 (hval 1 25 v1 rfl rfl) h1 hsz rfl rfl (B := 40) (by kernel_rfl)
  have k2 := h2
  have lt2 : ∀ x ∈ p2, x.block < W.heap.size := by obtain ⟨m, hm⟩ := k2; exact DataW.trod_lt m _ _ _ hm
  obtain ⟨A2, cp2, l2, rfl, cle2, C2, y2, g2⟩ := Rd.arg_slice (j := 2) (t := 51) Try.underlying51 opn28 (hval 2 51 v2 rfl rfl) h2 hsz rfl rfl (B := 8) (by kernel_rfl)
  clear hA0 hval0 hsz0 hsz
  obtain ⟨kq, hk⟩ := PureFnExactReplayLedger.FnExactReplayLedger y0.f0 y0.f1 l1 l2 g0.1 g0.2 y1 g1 y2 g2
  refine (laws_FnExactReplayLedger.calls kq y0.f0 y0.f1 A1 cp1 l1 A2 cp2 l2 true W C1 cle1 C2 cle2 hk).mono fun e W' ⟨he, bel0⟩ => ?_
  have bel : Below W.heap.size W W' := bel0
  subst he
  exact ⟨_, rfl, _, _, _, [], _, [], hW', trodAll_mk1 (shut_bool Try.underlying4 _), (trodAll_cons_mk (Below.trod laidOut (by kernel_rfl) (of_decide_eq_true (by kernel_rfl)) k0 bel lt0) (trodAll_cons_mk (Below.trod laidOut (by kernel_rfl) (of_decide_eq_true (by kernel_rfl)) k1 bel lt1) (trodAll_cons_mk (Below.trod laidOut (by kernel_rfl) (of_decide_eq_true (by kernel_rfl)) k2 bel lt2) trodAll_mk0))), rfl, bel.frame _, fun h => by cases h⟩
theorem over : Rows.fnExactReplayLedgerRow.holds Try.pinned (OpenSpec.ofChange Rows.fnExactReplayLedgerSpec) :=
  OpenClaim.holds_of_wide 8 Try.f8 rfl rfl rfl rfl rfl rfl rfl ⟨rfl, rfl, rfl, rfl, rfl⟩ rfl rfl rfl rfl rfl (by kernel_rfl) Try.func8 (by kernel_rfl)
    (of_decide_eq_true (by kernel_rfl)) (by unfold Func.isWrapper; first | (rw [if_pos (by decide +kernel)]; kernel_rfl) | (rw [if_neg (by decide +kernel)]; exact ⟨rfl, rfl⟩))
    (fun os started H enc _ => lifted os started H enc)
theorem proved : Rows.FnExactReplayLedgerSaid := over
#print axioms proved
end Go.Proofs.Ytncbgnlojabpfaa.fnExactReplayLedger
namespace Go.Proofs.Ytncbgnlojabpfaa
/-- The row, under a short name, for the claim. -/
theorem fnExactReplayLedger_holds : Rows.FnExactReplayLedgerSaid := fnExactReplayLedger.proved
end Go.Proofs.Ytncbgnlojabpfaa
