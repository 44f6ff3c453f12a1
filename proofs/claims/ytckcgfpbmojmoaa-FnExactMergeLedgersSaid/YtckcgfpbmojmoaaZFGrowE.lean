import Derived.Test.YtckcgfpbmojmoaaZG0
import Derived.Test.YtckcgfpbmojmoaaZWk
namespace Go.Proofs.Ytckcgfpbmojmoaa.G
open Go.RowKit Go.Proofs.YtckcgfpbmojmoaaW.PrintWords Go.Proofs.YtckcgfpbmojmoaaW.PrintLast Go.Proofs.YtckcgfpbmojmoaaW.PrintMore
attribute [local go_sem] max2_int min2_int max_two min_two max_three min_three max_four min_four
set_option linter.unusedVariables false
set_option linter.unusedSimpArgs false
open Go.Proofs.Ytckcgfpbmojmoaa.Wk
theorem growE.calls (n : Int) (h0 : 0 ≤ n) (h1 : n ≤ 17592186044416) (w : World) :
    Calls Try.prog 59 #[.slice none 0 0, .int .i64 n] w fun e w' => ∃ v0_ : Value, e = .returned v0_ ∧ Kd.R k40 40 w' w.heap.size (fun _ => True) v0_ [] ∧ Below w.heap.size w w' := by
  have e1 : wrap64 (n - 0) = n := by unfold wrap64; omega
  have e2 : decide (n < 0) = false := decide_eq_false (by omega)
  go_enter Try.func59, Try.ntmps59
  by_cases hn : 0 < n
  · have e3 : decide (0 < n) = true := decide_eq_true hn
    go_wp2_with ((with_reducible refine gate_builtin (b := .append) (xs := #[.tmp 20, .tmp 21]) rfl ?_); at_builtin; refine Kd.R_append_zeros k40 (w0 := w) w.heap.size rfl (.tmp 20) (.tmp 21) 24 3 40 (.agg #[(.int .i16 0), (.int .i8 0), (.int .i8 0), (.int .u8 0), (.int .i16 0)]) 8 rfl Try.underlying24 Try.underlying3 info40 rfl (by decide) (by omega) (.slice none 0 0) [] z40 n (fun _ => True) rfl rfl (k40_mkM _ _ _ z40) (fun _ _ => trivial) (Kd.R_nil _ _ _ _ _) h0 (Below.refl _ _) (Nat.le_refl _) (by simp; omega) ?_; intro v1 w1 ho1 hb1 hg1 ha1; obtain ⟨A1, c1, hv1⟩ := Kd.R_slice ho1; subst hv1; have ho2 := Kd.R_take (m := 0) ho1 (Nat.zero_le _); clear hg1 ha1)
    go_ret
    exact ⟨_, rfl, by simpa using ho2, hb1⟩
  · have e3 : decide (0 < n) = false := decide_eq_false hn
    go_wp2
    go_ret
    exact ⟨_, rfl, Kd.R_nil _ _ _ _ _, Below.refl _ _⟩
end Go.Proofs.Ytckcgfpbmojmoaa.G
