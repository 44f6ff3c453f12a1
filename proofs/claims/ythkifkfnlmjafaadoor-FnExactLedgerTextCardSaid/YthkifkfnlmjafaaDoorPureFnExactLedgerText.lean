/- FnExactLedgerText: the program's LedgerText answers as the reference's does, for all ledgers that the law lets in. Its row lists what three of the library's tables hold; its card ties that to the program's text. -/
import Derived.Test.YthkifkfnlmjafaaDoorSayFnExactLedgerText
import Derived.Test.YthkifkfnlmjafaaDoorFHpEntry
import Derived.Test.YthkifkfnlmjafaaDoorFLibEntry
import Derived.Test.YthkifkfnlmjafaaDoorFLibTextE
namespace Go.Proofs.YthkifkfnlmjafaaDoor.PureFnExactLedgerText
open Go.RowKit Go.Proofs.YthkifkfnlmjafaaDoorW.PrintWords Go.Proofs.YthkifkfnlmjafaaDoor.G Go.Proofs.YthkifkfnlmjafaaDoor.SayFnExactLedgerText Go.Proofs.YthkifkfnlmjafaaDoor.Wk Go.Proofs.YthkifkfnlmjafaaDoor.Pl Txt
set_option linter.unusedSimpArgs false
set_option linter.unusedVariables false
def out (l : List En) : ByteArray := B (if ledgerB 6 l = true then textE l else [])
theorem spec_t (l : List En) (hr : l.all rngB = true) : Ev (fun k => spec_LedgerText.f k l) (out l) := by
  unfold spec_LedgerText.f spec_l06Ledger.f out
  simp only [Option.bind_some]
  cases h : ledgerB 6 l
  · exact Ev.now _
  · obtain ⟨h1, h2⟩ := ledger_ok hr h
    exact Ev.bind (textE_t l h1 h2) (Ev.now _)
theorem FnExactLedgerText : SayFnExactLedgerText.Pure := by
  intro l hl hx
  refine Ev.rounds (?_ : Ev (fun k => laws_FnExactLedgerText.f k l) true)
  unfold laws_FnExactLedgerText.f
  have hr : (l.map cEntry).all rngB = true := by
    refine List.all_eq_true.2 fun y hy => ?_
    obtain ⟨x, hx1, rfl⟩ := List.mem_map.1 hy
    have := hx x hx1
    unfold Ok63 at this
    unfold rngB
    simp only [Bool.and_eq_true, inB_iff]
    exact ⟨this.1, this.2.1, this.2.2.1, this.2.2.2.1, this.2.2.2.2⟩
  simp only [szEntryS_tells l hl 1048576 (by omega) (by omega), Option.bind_some]
  by_cases hbig : (1048576 : Int) < l.length
  · simp only [if_pos hbig]
    exact Ev.now _
  · simp only [if_neg hbig, if_neg (show ¬ ((1048576 : Int) - l.length < 0) by omega)]
    have hi := impl_ledger_t hr (by simp; omega)
    repeat (first
      | exact Ev.now _
      | refine Ev.bind (by first | exact ev_of (toEntryS_tells l hl) | exact spec_t _ hr | exact ev_of (eqEntryS_tells _ (by simp; omega))) ?_
      | simp only [hi, out, Option.bind_some, if_true, bne_self, if_neg Bool.false_ne_true])
end Go.Proofs.YthkifkfnlmjafaaDoor.PureFnExactLedgerText
