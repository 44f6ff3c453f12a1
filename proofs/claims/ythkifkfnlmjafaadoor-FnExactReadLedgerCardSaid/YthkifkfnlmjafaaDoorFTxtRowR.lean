/- What the list of a reading row gives its calls. -/
import Derived.Test.YthkifkfnlmjafaaDoorFTxtRow
import Derived.Test.YthkifkfnlmjafaaDoorFTxtR
import Derived.Stop.LaidErr
import Derived.FnData
namespace Go.Proofs.YthkifkfnlmjafaaDoor.G
open Go.RowKit Go.Proofs.YthkifkfnlmjafaaDoorW.PrintWords Go.Proofs.YthkifkfnlmjafaaDoorW.PrintLast Go.Proofs.YthkifkfnlmjafaaDoorW.PrintMore
attribute [local go_sem] max2_int min2_int max_two min_two max_three min_three max_four min_four   -- for this text's walks alone
set_option linter.unusedVariables false
set_option linter.unusedSimpArgs false

theorem star_es : "*" ++ "errors.errorString" = "*errors.errorString" := by decide
theorem row_es (u : TypeId) (h : Tryd.prog.typeName? 3 u = some "*errors.errorString") : u = 158 :=
  typeName_ptr_named (nm := "errors.errorString") (by rw [star_es]; kernel_rfl) (by kernel_rfl) (by decide) u (by rw [star_es]; exact h)
theorem err_of {n : String} {g : Nat} {text : List UInt8} {l : List (String × DataW Unit)} {W : World} (h : laidMetH Tryd.prog l W) (e : l.filter (fun y => y.1 == n) = [(n, .iface "*errors.errorString" (.ptr (.agg [.lit (.string text)])))])
    (hg : Tryd.prog.globalNamed n = some g) (ht : (Tryd.prog.globals[g]?).map (·.type) = some 69) : ∃ te pe, W.cell? ⟨g, 0, none⟩ = some (.iface te pe) := by
  obtain ⟨a, s, hv, _⟩ := laid_sentinel (laid_one h _ rfl e) hg ht Tryd.underlying69 row_es Tryd.underlying158 Tryd.underlying160 rfl rfl Tryd.underlying9 (by kernel_rfl) (by kernel_rfl)
  exact ⟨_, _, by simpa using World.var?_cell hg hv 0⟩
theorem lr_of {l : List (String × DataW Unit)} {W : World} (hs : W.ShapedOpen Tryd.prog) (h : laidMetH Tryd.prog l W)
    (e : (l.filter (fun y => y.1 == "internal/strconv.uint64pow10") = [("internal/strconv.uint64pow10", Lib.tabData .u64 Lib.pow10Tab)]) ∧
      (l.filter (fun y => y.1 == "strconv.ErrSyntax") = [("strconv.ErrSyntax", .iface "*errors.errorString" (.ptr (.agg [.lit (.string [105, 110, 118, 97, 108, 105, 100, 32, 115, 121, 110, 116, 97, 120])])))]) ∧
      (l.filter (fun y => y.1 == "strconv.ErrRange") = [("strconv.ErrRange", .iface "*errors.errorString" (.ptr (.agg [.lit (.string [118, 97, 108, 117, 101, 32, 111, 117, 116, 32, 111, 102, 32, 114, 97, 110, 103, 101])])))])) : Lr W :=
  ⟨lw_of hs h e.1, err_of h e.2.1 (by kernel_rfl) (by kernel_rfl), err_of h e.2.2 (by kernel_rfl) (by kernel_rfl), Tryd.laySplit.s1_3 W hs⟩
end Go.Proofs.YthkifkfnlmjafaaDoor.G
