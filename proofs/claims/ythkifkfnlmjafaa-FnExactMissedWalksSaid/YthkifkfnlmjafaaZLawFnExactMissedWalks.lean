import Derived.Test.YthkifkfnlmjafaaRows
import Derived.Test.YthkifkfnlmjafaaZRd
import Derived.Test.YthkifkfnlmjafaaZSayFnExactMissedWalks
import Derived.Test.YthkifkfnlmjafaaZPureFnExactMissedWalks
import Derived.WalkKit
import Derived.ProofKit
import Derived.OpenShut
import Derived.ShutString
import Derived.ChangeOld
import Derived.Below
import Derived.SizedLaws
namespace Go.Proofs.Ythkifkfnlmjafaa.fnExactMissedWalks
open Go.ChangeShapes Go.WideShapes Go.ChangeAt Go.RowKit
open Go.ChangeMaps (open_string shut_string)
open Go.Proofs.Ythkifkfnlmjafaa.G Go.Proofs.YthkifkfnlmjafaaW.PrintWords
set_option linter.unusedVariables false
theorem own : ownKnob Try.prog.godebug = none := by kernel_rfl
theorem laidOut : laidOutB Try.prog = true := by kernel_rfl
theorem c_5 : Try.prog.cellsOf 5 = 1 := by kernel_rfl
theorem opn5 : Rd.Opn Try.prog 5 (Kd.int .u8) (fun x => (0 ≤ x ∧ x ≤ 255)) := ⟨(Rd.opn_int Try.underlying5 c_5).sz, fun h => by
  obtain ⟨y, hy, hw⟩ := (Rd.opn_int Try.underlying5 c_5).go h
  exact ⟨y, hy, Rd.in_u8 hw⟩⟩
theorem c_55 : Try.prog.cellsOf 55 = 6 := by kernel_rfl
theorem c_50 : Try.prog.cellsOf 50 = 1 := by kernel_rfl
theorem c_51 : Try.prog.cellsOf 51 = 1 := by kernel_rfl
theorem opn55 : Rd.Opn Try.prog 55 k55 (SayFnExactMissedWalks.Ok55) := ⟨by rw [c_55]; rfl, fun {H enc w base spare held fuel cs x} h => by
  obtain ⟨xs, n, _, rfl, hl, hlen, hf⟩ := DataW.trod_struct Try.underlying55 h
  rw [c_55] at hl
  obtain ⟨c0, c1, c2, c3, c4, c5, rfl⟩ := Rd.list6 hl
  obtain ⟨x0, x1, x2, x3, x4, x5, rfl⟩ := Rd.list6 hlen
  have h0 : DataW.trod enc Try.prog w base spare held n 50 [c0] = some x0 := by simpa [c_50] using hf 0 _ rfl
  obtain ⟨a0, rfl, w0⟩ := Rd.cell_int Try.underlying50 h0
  have h1 : DataW.trod enc Try.prog w base spare held n 50 [c1] = some x1 := by simpa [c_50] using hf 1 _ rfl
  obtain ⟨a1, rfl, w1⟩ := Rd.cell_int Try.underlying50 h1
  have h2 : DataW.trod enc Try.prog w base spare held n 50 [c2] = some x2 := by simpa [c_50] using hf 2 _ rfl
  obtain ⟨a2, rfl, w2⟩ := Rd.cell_int Try.underlying50 h2
  have h3 : DataW.trod enc Try.prog w base spare held n 50 [c3] = some x3 := by simpa [c_50] using hf 3 _ rfl
  obtain ⟨a3, rfl, w3⟩ := Rd.cell_int Try.underlying50 h3
  have h4 : DataW.trod enc Try.prog w base spare held n 50 [c4] = some x4 := by simpa [c_50] using hf 4 _ rfl
  obtain ⟨a4, rfl, w4⟩ := Rd.cell_int Try.underlying50 h4
  have h5 : DataW.trod enc Try.prog w base spare held n 51 [c5] = some x5 := by simpa [c_51] using hf 5 _ rfl
  obtain ⟨a5, rfl, w5⟩ := Rd.cell_int Try.underlying51 h5
  exact ⟨⟨a0, a1, a2, a3, a4, a5⟩, k55_mk w _, Rd.in_i16 w0, Rd.in_i16 w1, Rd.in_i16 w2, Rd.in_i16 w3, Rd.in_i16 w4, Rd.in_i8 w5⟩⟩
set_option maxRecDepth 100000 in
theorem lifted (os : Os) (started : os.Started) (H : Type) (enc : TypeId × Value → H) :
    ReturnsInHanded {} Try.checked os 4 .any (Rows.fnExactMissedWalksSpec.pre6 enc Try.prog Try.f4 Rows.fnExactMissedWalksRow.domain false) (Rows.fnExactMissedWalksSpec.post enc Try.prog Try.f4 false true false false) := by
  refine returnsInHanded_of_change_sized (C := Try.checked) own started (by kernel_rfl) Try.func4
    (ChangeSpec.witness6 (enc := enc) (C := Try.checked) false ⟨#[], #[.slice none 0 0, .slice none 0 0, .int .i64 0, .slice none 0 0], []⟩ 8 (by kernel_rfl) (by kernel_rfl) (by kernel_rfl) (by kernel_rfl)) ?_
  intro W base args ds gs before hval0 hW hcnd hsz0 _
  have hsz : (DataW.weightsEach Try.prog (Try.f4.params.toList ++ Rows.fnExactMissedWalksSpec.plain.varTypes Try.prog) (ds ++ gs)).all (· ≤ reachBytes) = true := hsz0
  have hval : ∀ (j : Nat) t v, Try.f4.params[j]? = some t → args[j]? = some v → Value.okWide Try.prog W .any base t v := hval0
  have hW' := hW
  obtain ⟨p, q, hA0, hV, rfl, hfz, hnd⟩ := hW
  have hA : DataW.TrodAll enc Try.prog W 0 (fun _ => true) true Try.f4.params.toList args.toList ds p := hA0
  rw [Try.params4] at hA hval hsz
  obtain ⟨v0, vs0, d0, ds0, p0, q0, hargs, rfl, rfl, h0, r0⟩ := trodAll_cons hA
  obtain ⟨v1, vs1, d1, ds1, p1, q1, rfl, rfl, rfl, h1, r1⟩ := trodAll_cons r0
  obtain ⟨v2, vs2, d2, ds2, p2, q2, rfl, rfl, rfl, h2, r2⟩ := trodAll_cons r1
  obtain ⟨v3, vs3, d3, ds3, p3, q3, rfl, rfl, rfl, h3, r3⟩ := trodAll_cons r2
  obtain ⟨rfl, rfl, rfl⟩ := trodAll_nil r3
  obtain rfl : args = #[v0, v1, v2, v3] := by cases args; simp_all
  obtain ⟨rfl, rfl⟩ := trodVars_none hV
  have k0 := h0
  have lt0 : ∀ x ∈ p0, x.block < W.heap.size := by obtain ⟨m, hm⟩ := k0; exact DataW.trod_lt m _ _ _ hm
  obtain ⟨A0, cp0, l0, rfl, cle0, C0, y0, g0⟩ := Rd.arg_slice (j := 0) (t := 22) Try.underlying22 opn5 (hval 0 22 v0 rfl rfl) h0 hsz rfl rfl (B := 1) (by kernel_rfl)
  have k1 := h1
  have lt1 : ∀ x ∈ p1, x.block < W.heap.size := by obtain ⟨m, hm⟩ := k1; exact DataW.trod_lt m _ _ _ hm
  obtain ⟨A1, cp1, l1, rfl, cle1, C1, y1, g1⟩ := Rd.arg_slice (j := 1) (t := 23) Try.underlying23 opn55 (hval 1 23 v1 rfl rfl) h1 hsz rfl rfl (B := 12) (by kernel_rfl)
  obtain ⟨a2, rfl, rfl, rfl, w2⟩ := open_int Try.underlying2 (hval 2 2 v2 rfl rfl) h2
  have g2 := Rd.in_i64 w2
  have k3 := h3
  have lt3 : ∀ x ∈ p3, x.block < W.heap.size := by obtain ⟨m, hm⟩ := k3; exact DataW.trod_lt m _ _ _ hm
  obtain ⟨A3, cp3, l3, rfl, cle3, C3, y3, g3⟩ := Rd.arg_slice (j := 3) (t := 22) Try.underlying22 opn5 (hval 3 22 v3 rfl rfl) h3 hsz rfl rfl (B := 1) (by kernel_rfl)
  clear hA0 hval0 hsz0 hsz; obtain ⟨kq, hk⟩ := PureFnExactMissedWalks.FnExactMissedWalks l0 l1 a2 l3 y0 g0 y1 g1 g2 y3 g3
  refine (laws_FnExactMissedWalks.calls kq A0 cp0 l0 A1 cp1 l1 a2 A3 cp3 l3 true W C0 cle0 C1 cle1 C3 cle3 hk).mono fun e W' ⟨he, bel0⟩ => ?_
  have bel : Below W.heap.size W W' := bel0
  subst he; exact ⟨_, rfl, _, _, _, [], _, [], hW', trodAll_mk1 (shut_bool Try.underlying4 _), (trodAll_cons_mk (Below.trod laidOut (by kernel_rfl) (of_decide_eq_true (by kernel_rfl)) k0 bel lt0) (trodAll_cons_mk (Below.trod laidOut (by kernel_rfl) (of_decide_eq_true (by kernel_rfl)) k1 bel lt1) (trodAll_cons_mk (shut_int Try.underlying2 w2) (trodAll_cons_mk (Below.trod laidOut (by kernel_rfl) (of_decide_eq_true (by kernel_rfl)) k3 bel lt3) trodAll_mk0)))), rfl, bel.frame _, fun h => by cases h⟩
theorem over : Rows.fnExactMissedWalksRow.holds Try.pinned (OpenSpec.ofChange Rows.fnExactMissedWalksSpec) :=
  OpenClaim.holds_of_wide 4 Try.f4 rfl rfl rfl rfl rfl rfl rfl ⟨rfl, rfl, rfl, rfl, rfl⟩ rfl rfl rfl rfl rfl (by kernel_rfl) Try.func4 (by kernel_rfl)
    (of_decide_eq_true (by kernel_rfl)) (by unfold Func.isWrapper; first | (rw [if_pos (by decide +kernel)]; kernel_rfl) | (rw [if_neg (by decide +kernel)]; exact ⟨rfl, rfl⟩))
    (fun os started H enc _ => lifted os started H enc)
theorem proved : Rows.FnExactMissedWalksSaid := over
#print axioms proved
end Go.Proofs.Ythkifkfnlmjafaa.fnExactMissedWalks
namespace Go.Proofs.Ythkifkfnlmjafaa
theorem fnExactMissedWalks_holds : Rows.FnExactMissedWalksSaid := fnExactMissedWalks.proved
end Go.Proofs.Ythkifkfnlmjafaa
