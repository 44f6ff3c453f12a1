import Derived.Test.YtckcgfpbmojmoaaZPl
import Derived.Test.YtckcgfpbmojmoaaZFEntry
import Derived.Test.YtckcgfpbmojmoaaZG2
import Derived.Test.YtckcgfpbmojmoaaZG2
import Derived.Test.YtckcgfpbmojmoaaZG3
import Derived.Test.YtckcgfpbmojmoaaZG2
namespace Go.Proofs.Ytckcgfpbmojmoaa.G
open Go.RowKit Go.Proofs.YtckcgfpbmojmoaaW.PrintWords Go.Proofs.YtckcgfpbmojmoaaW.PrintLast Go.Proofs.YtckcgfpbmojmoaaW.PrintMore
attribute [local go_sem] max2_int min2_int max_two min_two max_three min_three max_four min_four
set_option linter.unusedVariables false
set_option linter.unusedSimpArgs false
open Go.Proofs.Ytckcgfpbmojmoaa.Wk Go.Proofs.Ytckcgfpbmojmoaa.Pl
theorem pw_within_tells (x lo hi : Int) : impl_within.f x lo hi = some (inB x lo hi) := by
  unfold impl_within.f inB
  by_cases h : lo ≤ x <;> simp [h]
theorem validEntry_tells (p d f t wh n : Int) : impl_ValidEntry.f p d f t wh n = some (entryB p d f t wh n) := by
  unfold impl_ValidEntry.f impl_areParties.f impl_isParty.f entryB
  simp only [pw_within_tells, Option.bind_some]
  cases inB p 1 6 <;> cases inB (wrap64 d) 0 10000 <;> cases inB (wrap64 f) 0 (wrap64 (p - 1)) <;> cases inB (wrap64 t) 0 (wrap64 (p - 1)) <;> cases inB (wrap64 n) 1 1000 <;> simp
  by_cases h : wh ≤ 4 <;> simp [h, Bool.beq_comm]
theorem validLedger_tells (p : Int) (l : List S40) (hl : l.length ≤ 1099511627776) : ∀ k, l.length < k → impl_ValidLedger.f k p l = some (ledgerB p l) := by
  unfold impl_ValidLedger.f
  have step : ∀ k (i : Nat), i < l.length → okAt p l i = true → impl_ValidLedger.l0 (k + 1) p l l (l.length : Int) i = impl_ValidLedger.l0 k p l l (l.length : Int) (wrap64 ((i : Int) + 1)) := by
    intro k i hi hok
    have h1 : (i : Int) < (l.length : Int) := by omega
    simp only [impl_ValidLedger.l0]
    rw [if_pos h1, if_pos (by omega), if_pos h1, validEntry_tells]
    simp only [Option.bind_some]
    unfold okAt at hok
    rw [Bool.and_eq_true] at hok
    have e : entryB p (rd_T40 l (i : Int)).f0 (rd_T40 l (i : Int)).f1 (rd_T40 l (i : Int)).f2 (rd_T40 l (i : Int)).f3 (rd_T40 l (i : Int)).f4 = true := hok.1
    rw [e, if_pos rfl]
    by_cases h0 : 0 < i
    · have hw : wrap64 ((i : Int) - 1) = ((i - 1 : Nat) : Int) := by unfold wrap64; omega
      rw [if_pos (by omega), hw, if_pos (by omega), if_pos (by omega)]
      have h3 := hok.2
      simp only [h0, decide_true, Bool.true_and, Bool.not_eq_true', decide_eq_false_iff_not] at h3
      rw [if_neg]
      exact h3
    · rw [if_neg (by omega)]
  rcases first_bad (okAt p l) l.length with h | ⟨m, hm, hbad, hb⟩
  · rw [ledgerB_yes h]
    intro k hk
    refine run_loop (F := fun k i (_ : Unit) => impl_ValidLedger.l0 k p l l (l.length : Int) i) (n := l.length) (by omega) (fun _ => ()) _ (fun k i hi => step k i hi (h i hi)) (fun k => ?_) k hk
    show impl_ValidLedger.l0 (k + 1) p l l (l.length : Int) (l.length : Int) = _
    simp only [impl_ValidLedger.l0]
    rw [if_neg (by omega)]
    simp only [impl_areParties.f, pw_within_tells, Option.bind_some]
    have e : (decide ((l.length : Int) ≤ 80)) = decide (l.length ≤ 80) := by simp; omega
    rw [e]
    cases inB p 1 6 <;> simp
  · rw [ledgerB_no hm hbad]
    intro k hk
    refine run_loop (F := fun k i (_ : Unit) => impl_ValidLedger.l0 k p l l (l.length : Int) i) (n := m) (by omega) (fun _ => ()) _ (fun k i hi => step k i (by omega) (hb i hi)) (fun k => ?_) k (by omega)
    show impl_ValidLedger.l0 (k + 1) p l l (l.length : Int) (m : Int) = _
    have h1 : (m : Int) < (l.length : Int) := by omega
    simp only [impl_ValidLedger.l0]
    rw [if_pos h1, if_pos (by omega), if_pos h1, validEntry_tells]
    simp only [Option.bind_some]
    unfold okAt at hbad
    cases e : entryB p (rd_T40 l (m : Int)).f0 (rd_T40 l (m : Int)).f1 (rd_T40 l (m : Int)).f2 (rd_T40 l (m : Int)).f3 (rd_T40 l (m : Int)).f4 with
    | false => rfl
    | true =>
      rw [if_pos rfl]
      have e' : entryB p (l.getD m z40).f0 (l.getD m z40).f1 (l.getD m z40).f2 (l.getD m z40).f3 (l.getD m z40).f4 = true := e
      rw [e'] at hbad
      simp at hbad
      obtain ⟨h0, h2⟩ := hbad
      have hw : wrap64 ((m : Int) - 1) = ((m - 1 : Nat) : Int) := by unfold wrap64; omega
      rw [if_pos (by omega), hw, if_pos (by omega), if_pos (by omega), if_pos]
      simpa [rd_T40, List.getD] using h2
theorem szEntryS_tells (l : List S55) (hl : l.length * 8 ≤ 140737488351232) (a : Int) (h0 : 0 ≤ a) (h1 : a ≤ 1048576) : laws_szEntryS.f l a = some (if a < l.length then -1 else a - l.length) := by
  unfold laws_szEntryS.f
  rw [w_id (by omega) (by omega)]
  by_cases h : a < l.length
  · rw [if_pos (by omega), if_pos h]
  · rw [if_neg (by omega), if_neg h]
end Go.Proofs.Ytckcgfpbmojmoaa.G
