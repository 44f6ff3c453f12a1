/- The row of FnExactLedgerText, out of its pure statement and the walk of its code. -/
import Derived.Test.YthkifkfnlmjafaaDoorRows
import Derived.Test.YthkifkfnlmjafaaDoorRd
import Derived.Test.YthkifkfnlmjafaaDoorSayFnExactLedgerText
import Derived.Test.YthkifkfnlmjafaaDoorPureFnExactLedgerText
import Derived.WalkKit
import Derived.ProofKit
import Derived.OpenShut
import Derived.ShutString
import Derived.ChangeOld
import Derived.Below
import Derived.SizedLaws
import Derived.Test.YthkifkfnlmjafaaDoorFTxtRow
import Derived.Test.YthkifkfnlmjafaaDoorCards
import Derived.Test.YthkifkfnlmjafaaDoorTie
import Derived.LaidMore
import Derived.Lay
import Derived.LaidSub
import Derived.SevenTiedAt
import Derived.Stop.Joined
namespace Go.Proofs.YthkifkfnlmjafaaDoor.fnExactLedgerText
open Go.ChangeShapes Go.WideShapes Go.ChangeAt Go.RowKit
open Go.ChangeMaps (open_string shut_string)
open Go.Proofs.YthkifkfnlmjafaaDoor.G Go.Proofs.YthkifkfnlmjafaaDoorW.PrintWords
set_option linter.unusedVariables false
theorem own : ownKnob Tryd.prog.godebug = none := by kernel_rfl
theorem laidOut : laidOutB Tryd.prog = true := by kernel_rfl
theorem c_63 : Tryd.prog.cellsOf 63 = 5 := by kernel_rfl
theorem c_22 : Tryd.prog.cellsOf 22 = 1 := by kernel_rfl
theorem c_23 : Tryd.prog.cellsOf 23 = 1 := by kernel_rfl
theorem c_5 : Tryd.prog.cellsOf 5 = 1 := by kernel_rfl
theorem opn63 : Rd.Opn Tryd.prog 63 k63 (SayFnExactLedgerText.Ok63) := ⟨by rw [c_63]; rfl, fun {H enc w base spare held fuel cs x} h => by
  obtain ⟨xs, n, _, rfl, hl, hlen, hf⟩ := DataW.trod_struct Tryd.underlying63 h
  rw [c_63] at hl
  obtain ⟨c0, c1, c2, c3, c4, rfl⟩ := Rd.list5 hl
  obtain ⟨x0, x1, x2, x3, x4, rfl⟩ := Rd.list5 hlen
  have h0 : DataW.trod enc Tryd.prog w base spare held n 22 [c0] = some x0 := by simpa [c_22] using hf 0 _ rfl
  obtain ⟨a0, rfl, w0⟩ := Rd.cell_int Tryd.underlying22 h0
  have h1 : DataW.trod enc Tryd.prog w base spare held n 23 [c1] = some x1 := by simpa [c_23] using hf 1 _ rfl
  obtain ⟨a1, rfl, w1⟩ := Rd.cell_int Tryd.underlying23 h1
  have h2 : DataW.trod enc Tryd.prog w base spare held n 23 [c2] = some x2 := by simpa [c_23] using hf 2 _ rfl
  obtain ⟨a2, rfl, w2⟩ := Rd.cell_int Tryd.underlying23 h2
  have h3 : DataW.trod enc Tryd.prog w base spare held n 5 [c3] = some x3 := by simpa [c_5] using hf 3 _ rfl
  obtain ⟨a3, rfl, w3⟩ := Rd.cell_int Tryd.underlying5 h3
  have h4 : DataW.trod enc Tryd.prog w base spare held n 22 [c4] = some x4 := by simpa [c_22] using hf 4 _ rfl
  obtain ⟨a4, rfl, w4⟩ := Rd.cell_int Tryd.underlying22 h4
  exact ⟨⟨a0, a1, a2, a3, a4⟩, k63_mk w _, Rd.in_i16 w0, Rd.in_i8 w1, Rd.in_i8 w2, Rd.in_u8 w3, Rd.in_i16 w4⟩⟩
set_option maxRecDepth 100000 in
theorem lifted (os : Os) (started : os.Started) (H : Type) (enc : TypeId × Value → H) :
    ReturnsInHanded {} Tryd.checked os 4 .any (fun w args => (Rows.fnExactLedgerTextSpec.pre enc Tryd.prog Tryd.f4 Rows.fnExactLedgerTextRow.domain false w args ∧ laidMetH Tryd.prog Rows.fnExactLedgerTextRow.laid w) ∧ sizedMet enc Tryd.prog Tryd.f4 (OpenSpec.ofChange Rows.fnExactLedgerTextSpec) false w args) (Rows.fnExactLedgerTextSpec.post enc Tryd.prog Tryd.f4 false true false false) := by
  refine returns_laid (C := Tryd.checked) (X := fun w _ => laidMetH Tryd.prog Rows.fnExactLedgerTextRow.laid w) (fun _ _ _ hh h => h.of_heap hh) own started (by kernel_rfl) Tryd.func4
    (ChangeSpec.witness_shaped (enc := enc) (C := Tryd.checked) (os := os) (X := fun w _ => laidMetH Tryd.prog Rows.fnExactLedgerTextRow.laid w) false (World.laidAll Tryd.prog os Rows.fnExactLedgerTextRow.laid) #[.slice none 0 0] 8 (World.laidAll_os _ _ _) (World.shaped_of_ZipB (by kernel_rfl) (by kernel_rfl)) (by kernel_rfl) (by kernel_rfl) (by kernel_rfl)
      (by rw [MakeChecks.laidMetH_plain _ _ _ (by kernel_rfl)]; exact laidMet_laidAll _ (by kernel_rfl) (by kernel_rfl))) ?_
  intro W base args ds gs before hval0 hW hcnd hsz0 hL hSh _
  have hLw : Lw W := lw_of hSh hL (by kernel_rfl)
  have hsz : (DataW.weightsEach Tryd.prog (Tryd.f4.params.toList ++ Rows.fnExactLedgerTextSpec.plain.varTypes Tryd.prog) (ds ++ gs)).all (· ≤ reachBytes) = true := hsz0
  have hval : ∀ (j : Nat) t v, Tryd.f4.params[j]? = some t → args[j]? = some v → Value.okWide Tryd.prog W .any base t v := hval0
  have hW' := hW
  obtain ⟨p, q, hA0, hV, rfl, hfz, hnd⟩ := hW
  have hA : DataW.TrodAll enc Tryd.prog W 0 (fun _ => true) true Tryd.f4.params.toList args.toList ds p := hA0
  rw [Tryd.params4] at hA hval hsz
  obtain ⟨v0, vs0, d0, ds0, p0, q0, hargs, rfl, rfl, h0, r0⟩ := trodAll_cons hA
  obtain ⟨rfl, rfl, rfl⟩ := trodAll_nil r0
  obtain rfl : args = #[v0] := by cases args; simp_all
  obtain ⟨rfl, rfl⟩ := trodVars_none hV
  have k0 := h0
  have lt0 : ∀ x ∈ p0, x.block < W.heap.size := by obtain ⟨m, hm⟩ := k0; exact DataW.trod_lt m _ _ _ hm
  obtain ⟨A0, cp0, l0, rfl, cle0, C0, y0, g0⟩ := Rd.arg_slice (j := 0) (t := 30) Tryd.underlying30 opn63 (hval 0 30 v0 rfl rfl) h0 hsz rfl rfl (B := 8) (by kernel_rfl)
  clear hA0 hval0 hsz0 hsz
  obtain ⟨kq, hk⟩ := PureFnExactLedgerText.FnExactLedgerText l0 y0 g0
  refine (laws_FnExactLedgerText.calls kq A0 cp0 l0 true W C0 cle0 hk hLw).mono fun e W' ⟨he, bel0⟩ => ?_
  have bel : Below W.heap.size W W' := bel0
  subst he
  exact ⟨_, rfl, _, _, _, [], _, [], hW', trodAll_mk1 (shut_bool Tryd.underlying4 _), (trodAll_cons_mk (Below.trod laidOut (by kernel_rfl) (of_decide_eq_true (by kernel_rfl)) k0 bel lt0) trodAll_mk0), rfl, bel.frame _, fun h => by cases h⟩
theorem over : Rows.fnExactLedgerTextRow.holds Tryd.pinned (OpenSpec.ofChange Rows.fnExactLedgerTextSpec) :=
  OpenClaim.holds_of_wide 4 Tryd.f4 rfl rfl rfl rfl rfl rfl rfl ⟨rfl, rfl, rfl, rfl, rfl⟩ rfl rfl rfl rfl rfl (by kernel_rfl) Tryd.func4 (by kernel_rfl)
    (of_decide_eq_true (by kernel_rfl)) (by unfold Func.isWrapper; first | (rw [if_pos (by decide +kernel)]; kernel_rfl) | (rw [if_neg (by decide +kernel)]; exact ⟨rfl, rfl⟩))
    (fun os started H enc _ => lifted os started H enc)
theorem row_holds : Rows.FnExactLedgerTextSaid := over
theorem proved : Rows.FnExactLedgerTextCardSaid :=
  Claim7.holds_tied_plain_at .later [] [.data, .data, .data] true (true, "6965338b9a72fb8bfaf96b3d53f180f4103dd626b2cde5019c066a06b4a49d02") true row_holds (fun _ h => by cases h) (by kernel_rfl) (fun _ h => by cases h) fnExactLedgerText_row_tie rfl ⟨rfl, rfl⟩ (by kernel_rfl) rfl
    (fun f fn hf hfn => by
      obtain rfl : f = 4 := Option.some.inj ((show Tryd.prog.funcNamed Rows.fnExactLedgerTextRow.func = some 4 by kernel_rfl).symm.trans hf) |>.symm
      obtain rfl : fn = Tryd.f4 := (Option.some.inj (Tryd.func4.symm.trans hfn)).symm
      exact ⟨by kernel_rfl, fun j t ht => by
        rw [Tryd.params4] at ht
        have hm : t ∈ ([30] : List Nat) := by have := Array.mem_of_getElem? ht; simpa using this
        have hall : (([30] : List Nat).all fun u => !Tryd.prog.wantsStandIn u) = true := by kernel_rfl
        exact (show Tryd.prog.wantsStandIn t = false by simpa using List.all_eq_true.1 hall t hm)⟩)
    (by kernel_rfl)
#print axioms proved
end Go.Proofs.YthkifkfnlmjafaaDoor.fnExactLedgerText
namespace Go.Proofs.YthkifkfnlmjafaaDoor
/-- The row, under a short name, for the claim. -/
theorem fnExactLedgerText_holds : Rows.FnExactLedgerTextCardSaid := fnExactLedgerText.proved
end Go.Proofs.YthkifkfnlmjafaaDoor
