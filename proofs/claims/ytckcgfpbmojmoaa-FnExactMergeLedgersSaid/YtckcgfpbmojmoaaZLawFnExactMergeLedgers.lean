import Derived.Test.YtckcgfpbmojmoaaRows
import Derived.Test.YtckcgfpbmojmoaaZRd
import Derived.Test.YtckcgfpbmojmoaaZSayFnExactMergeLedgers
import Derived.Test.YtckcgfpbmojmoaaZPureFnExactMergeLedgers
import Derived.WalkKit
import Derived.ProofKit
import Derived.OpenShut
import Derived.ShutString
import Derived.ChangeOld
import Derived.Below
import Derived.SizedLaws
namespace Go.Proofs.Ytckcgfpbmojmoaa.fnExactMergeLedgers
open Go.ChangeShapes Go.WideShapes Go.ChangeAt Go.RowKit
open Go.ChangeMaps (open_string shut_string)
open Go.Proofs.Ytckcgfpbmojmoaa.G Go.Proofs.YtckcgfpbmojmoaaW.PrintWords
set_option linter.unusedVariables false
theorem own : ownKnob Try.prog.godebug = none := by kernel_rfl
theorem laidOut : laidOutB Try.prog = true := by kernel_rfl
theorem c_55 : Try.prog.cellsOf 55 = 5 := by kernel_rfl
theorem c_37 : Try.prog.cellsOf 37 = 1 := by kernel_rfl
theorem c_38 : Try.prog.cellsOf 38 = 1 := by kernel_rfl
theorem c_5 : Try.prog.cellsOf 5 = 1 := by kernel_rfl
theorem opn55 : Rd.Opn Try.prog 55 k55 (SayFnExactMergeLedgers.Ok55) := ⟨by rw [c_55]; rfl, fun {H enc w base spare held fuel cs x} h => by
  obtain ⟨xs, n, _, rfl, hl, hlen, hf⟩ := DataW.trod_struct Try.underlying55 h
  rw [c_55] at hl
  obtain ⟨c0, c1, c2, c3, c4, rfl⟩ := Rd.list5 hl
  obtain ⟨x0, x1, x2, x3, x4, rfl⟩ := Rd.list5 hlen
  have h0 : DataW.trod enc Try.prog w base spare held n 37 [c0] = some x0 := by simpa [c_37] using hf 0 _ rfl
  obtain ⟨a0, rfl, w0⟩ := Rd.cell_int Try.underlying37 h0
  have h1 : DataW.trod enc Try.prog w base spare held n 38 [c1] = some x1 := by simpa [c_38] using hf 1 _ rfl
  obtain ⟨a1, rfl, w1⟩ := Rd.cell_int Try.underlying38 h1
  have h2 : DataW.trod enc Try.prog w base spare held n 38 [c2] = some x2 := by simpa [c_38] using hf 2 _ rfl
  obtain ⟨a2, rfl, w2⟩ := Rd.cell_int Try.underlying38 h2
  have h3 : DataW.trod enc Try.prog w base spare held n 5 [c3] = some x3 := by simpa [c_5] using hf 3 _ rfl
  obtain ⟨a3, rfl, w3⟩ := Rd.cell_int Try.underlying5 h3
  have h4 : DataW.trod enc Try.prog w base spare held n 37 [c4] = some x4 := by simpa [c_37] using hf 4 _ rfl
  obtain ⟨a4, rfl, w4⟩ := Rd.cell_int Try.underlying37 h4
  exact ⟨⟨a0, a1, a2, a3, a4⟩, k55_mk w _, Rd.in_i16 w0, Rd.in_i8 w1, Rd.in_i8 w2, Rd.in_u8 w3, Rd.in_i16 w4⟩⟩
set_option maxRecDepth 100000 in
theorem lifted (os : Os) (started : os.Started) (H : Type) (enc : TypeId × Value → H) :
    ReturnsInHanded {} Try.checked os 3 .any (Rows.fnExactMergeLedgersSpec.pre6 enc Try.prog Try.f3 Rows.fnExactMergeLedgersRow.domain false) (Rows.fnExactMergeLedgersSpec.post enc Try.prog Try.f3 false true false false) := by
  refine returnsInHanded_of_change_sized (C := Try.checked) own started (by kernel_rfl) Try.func3
    (ChangeSpec.witness6 (enc := enc) (C := Try.checked) false ⟨#[], #[.int .i64 0, .slice none 0 0, .slice none 0 0], []⟩ 8 (by kernel_rfl) (by kernel_rfl) (by kernel_rfl) (by kernel_rfl)) ?_
  intro W base args ds gs before hval0 hW hcnd hsz0 _
  have hsz : (DataW.weightsEach Try.prog (Try.f3.params.toList ++ Rows.fnExactMergeLedgersSpec.plain.varTypes Try.prog) (ds ++ gs)).all (· ≤ reachBytes) = true := hsz0
  have hval : ∀ (j : Nat) t v, Try.f3.params[j]? = some t → args[j]? = some v → Value.okWide Try.prog W .any base t v := hval0
  have hW' := hW
  obtain ⟨p, q, hA0, hV, rfl, hfz, hnd⟩ := hW
  have hA : DataW.TrodAll enc Try.prog W 0 (fun _ => true) true Try.f3.params.toList args.toList ds p := hA0
  rw [Try.params3] at hA hval hsz
  obtain ⟨v0, vs0, d0, ds0, p0, q0, hargs, rfl, rfl, h0, r0⟩ := trodAll_cons hA
  obtain ⟨v1, vs1, d1, ds1, p1, q1, rfl, rfl, rfl, h1, r1⟩ := trodAll_cons r0
  obtain ⟨v2, vs2, d2, ds2, p2, q2, rfl, rfl, rfl, h2, r2⟩ := trodAll_cons r1
  obtain ⟨rfl, rfl, rfl⟩ := trodAll_nil r2
  obtain rfl : args = #[v0, v1, v2] := by cases args; simp_all
  obtain ⟨rfl, rfl⟩ := trodVars_none hV
  obtain ⟨a0, rfl, rfl, rfl, w0⟩ := open_int Try.underlying2 (hval 0 2 v0 rfl rfl) h0
  have g0 := Rd.in_i64 w0
  have k1 := h1
  have lt1 : ∀ x ∈ p1, x.block < W.heap.size := by obtain ⟨m, hm⟩ := k1; exact DataW.trod_lt m _ _ _ hm
  obtain ⟨A1, cp1, l1, rfl, cle1, C1, y1, g1⟩ := Rd.arg_slice (j := 1) (t := 22) Try.underlying22 opn55 (hval 1 22 v1 rfl rfl) h1 hsz rfl rfl (B := 8) (by kernel_rfl)
  have k2 := h2
  have lt2 : ∀ x ∈ p2, x.block < W.heap.size := by obtain ⟨m, hm⟩ := k2; exact DataW.trod_lt m _ _ _ hm
  obtain ⟨A2, cp2, l2, rfl, cle2, C2, y2, g2⟩ := Rd.arg_slice (j := 2) (t := 22) Try.underlying22 opn55 (hval 2 22 v2 rfl rfl) h2 hsz rfl rfl (B := 8) (by kernel_rfl)
  clear hA0 hval0 hsz0 hsz; obtain ⟨kq, hk⟩ := PureFnExactMergeLedgers.FnExactMergeLedgers a0 l1 l2 g0 y1 g1 y2 g2
  refine (laws_FnExactMergeLedgers.calls kq a0 A1 cp1 l1 A2 cp2 l2 true W C1 cle1 C2 cle2 hk).mono fun e W' ⟨he, bel0⟩ => ?_
  have bel : Below W.heap.size W W' := bel0
  subst he; exact ⟨_, rfl, _, _, _, [], _, [], hW', trodAll_mk1 (shut_bool Try.underlying4 _), (trodAll_cons_mk (shut_int Try.underlying2 w0) (trodAll_cons_mk (Below.trod laidOut (by kernel_rfl) (of_decide_eq_true (by kernel_rfl)) k1 bel lt1) (trodAll_cons_mk (Below.trod laidOut (by kernel_rfl) (of_decide_eq_true (by kernel_rfl)) k2 bel lt2) trodAll_mk0))), rfl, bel.frame _, fun h => by cases h⟩
theorem over : Rows.fnExactMergeLedgersRow.holds Try.pinned (OpenSpec.ofChange Rows.fnExactMergeLedgersSpec) :=
  OpenClaim.holds_of_wide 3 Try.f3 rfl rfl rfl rfl rfl rfl rfl ⟨rfl, rfl, rfl, rfl, rfl⟩ rfl rfl rfl rfl rfl (by kernel_rfl) Try.func3 (by kernel_rfl)
    (of_decide_eq_true (by kernel_rfl)) (by unfold Func.isWrapper; first | (rw [if_pos (by decide +kernel)]; kernel_rfl) | (rw [if_neg (by decide +kernel)]; exact ⟨rfl, rfl⟩))
    (fun os started H enc _ => lifted os started H enc)
theorem proved : Rows.FnExactMergeLedgersSaid := over
#print axioms proved
end Go.Proofs.Ytckcgfpbmojmoaa.fnExactMergeLedgers
namespace Go.Proofs.Ytckcgfpbmojmoaa
theorem fnExactMergeLedgers_holds : Rows.FnExactMergeLedgersSaid := fnExactMergeLedgers.proved
end Go.Proofs.Ytckcgfpbmojmoaa
