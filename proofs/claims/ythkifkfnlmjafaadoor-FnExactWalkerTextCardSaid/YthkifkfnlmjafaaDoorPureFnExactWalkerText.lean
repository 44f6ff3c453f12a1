/- FnExactWalkerText: the program's WalkerText answers as the reference's does, for all walkers. Its row lists what three of the library's tables hold; its card ties that to the program's text. -/
import Derived.Test.YthkifkfnlmjafaaDoorSayFnExactWalkerText
import Derived.Test.YthkifkfnlmjafaaDoorFLibTxt
import Derived.Test.YthkifkfnlmjafaaDoorFVWalk
import Derived.Test.YthkifkfnlmjafaaDoorFLibI64
namespace Go.Proofs.YthkifkfnlmjafaaDoor.PureFnExactWalkerText
open Go.RowKit Go.Proofs.YthkifkfnlmjafaaDoorW.PrintWords Go.Proofs.YthkifkfnlmjafaaDoor.G Go.Proofs.YthkifkfnlmjafaaDoor.SayFnExactWalkerText Go.Proofs.YthkifkfnlmjafaaDoor.Wk Go.Proofs.YthkifkfnlmjafaaDoor.Pl Txt
set_option linter.unusedSimpArgs false
set_option linter.unusedVariables false
theorem walker_t (f0 f1 f2 f3 f4 f5 : Int) : Ev (fun k => spec_l05Walker.f k 60 f0 f1 f2 f3 f4 f5) (walkB 60 f0 f1 f2 f3 f4 f5) := by
  unfold spec_l05Walker.f walkB
  simp only [l00In_tells2, Option.bind_some]
  have bad : Ev (fun k => spec_l05Walker.j0 k true f0 f1 f2 f3 f4 f5) false := by
    refine Ev.step (fun k => spec_l05Walker.j0.eq_2 _ _ _ _ _ _ _ k) ?_
    simp only [if_true]
    exact Ev.now _
  cases inB (wrap64 f0) 0 10000
  · simpa using bad
  cases inB (wrap64 f1) 1 100
  · simpa using bad
  simp only [if_true, Bool.true_and]
  cases inB (wrap64 f2) 0 (wrap64 (60 - 1))
  · simpa using bad
  refine Ev.step (fun k => spec_l05Walker.j0.eq_2 _ _ _ _ _ _ _ k) ?_
  simp only [Bool.not_true, Bool.false_eq_true, if_false, l00In_tells2, Option.bind_some, Bool.true_and]
  cases inB (wrap64 f3) 0 60
  · exact Ev.now _
  cases inB (wrap64 f4) 1 60
  · exact Ev.now _
  exact Ev.now _
/-- The last word of a walker's text: a number that may be less than 0. -/
def turn (f5 : Int) : List UInt8 := if f5 < 0 then 45 :: dec (-f5).toNat else dec f5.toNat
def words (f0 f1 f2 f3 f4 f5 : Int) : List (List UInt8) := [dec f0.toNat, dec f1.toNat, dec f2.toNat, dec f3.toNat, dec f4.toNat, turn f5]
theorem both (f0 f1 f2 f3 f4 f5 : Int) (h0 : -32768 ≤ f0 ∧ f0 ≤ 32767) (h1 : -32768 ≤ f1 ∧ f1 ≤ 32767) (h2 : -32768 ≤ f2 ∧ f2 ≤ 32767) (h3 : -32768 ≤ f3 ∧ f3 ≤ 32767) (h4 : -32768 ≤ f4 ∧ f4 ≤ 32767) (h5 : -128 ≤ f5 ∧ f5 ≤ 127) :
    ∃ r, Ev (fun k => spec_WalkerText.f k f0 f1 f2 f3 f4 f5) r ∧ Ev (fun k => impl_WalkerText.f k f0 f1 f2 f3 f4 f5) r := by
  unfold spec_WalkerText.f impl_WalkerText.f impl_ValidWalkers.f
  have hv : walkersB 60 [(⟨f0, f1, f2, f3, f4, f5⟩ : S27)] = walkB 60 f0 f1 f2 f3 f4 f5 := by
    unfold walkersB
    rw [inB_yes (by omega) (by omega)]
    simp [wB]
  simp only [hv, Option.bind_some]
  cases hw : walkB 60 f0 f1 f2 f3 f4 f5
  · refine ⟨B [], Ev.bind (hw ▸ walker_t f0 f1 f2 f3 f4 f5) ?_, ?_⟩
    · simp only [Bool.false_eq_true, if_false]
      exact Ev.now _
    · simp only [Bool.false_eq_true, if_false]
      exact Ev.now _
  · have hb := hw
    unfold walkB at hb
    simp only [Bool.and_eq_true, inB_iff] at hb
    rw [w_id (x := f0) (by omega) (by omega), w_id (x := f1) (by omega) (by omega), w_id (x := f2) (by omega) (by omega), w_id (x := f3) (by omega) (by omega), w_id (x := f4) (by omega) (by omega), w_id (x := f5) (by omega) (by omega)] at hb
    obtain ⟨b0, b1, b2, b3, b4, b5⟩ := hb
    have e60 : wrap64 (60 - 1) = 59 := by decide +kernel
    rw [e60] at b2
    have l0 := dec_len (n := f0.toNat) (by omega)
    have l1 := dec_len (n := f1.toNat) (by omega)
    have l2 := dec_len (n := f2.toNat) (by omega)
    have l3 := dec_len (n := f3.toNat) (by omega)
    have l4 := dec_len (n := f4.toNat) (by omega)
    have l5 : (turn f5).length ≤ 22 := by
      unfold turn
      split
      · have := dec_len (n := (-f5).toNat) (by omega); rw [List.length_cons]; omega
      · have := dec_len (n := f5.toNat) (by omega); omega
    have hslash : (⟨#[47]⟩ : ByteArray) = B [47] := rfl
    refine ⟨B (joinL 47 (words f0 f1 f2 f3 f4 f5)), Ev.bind (hw ▸ walker_t f0 f1 f2 f3 f4 f5) ?_, ?_⟩
    · simp only [if_true, hslash, w_id (x := f0) (by omega) (by omega), w_id (x := f1) (by omega) (by omega), w_id (x := f2) (by omega) (by omega), w_id (x := f3) (by omega) (by omega), w_id (x := f4) (by omega) (by omega), w_id (x := f5) (by omega) (by omega)]
      refine Ev.bind (dec_i b0.1 (by omega)) ?_
      refine ifp (by simp only [B_size]; omega) ?_
      refine Ev.bind (dec_i (by omega : 0 ≤ f1) (by omega)) ?_
      simp only [B_append]
      refine ifp (by simp only [B_size, List.length_append, List.length_cons, List.length_nil]; omega) ?_
      refine ifp (by simp only [B_size, List.length_append, List.length_cons, List.length_nil]; omega) ?_
      refine Ev.bind (dec_i b2.1 (by omega)) ?_
      simp only [B_append]
      refine ifp (by simp only [B_size, List.length_append, List.length_cons, List.length_nil]; omega) ?_
      refine ifp (by simp only [B_size, List.length_append, List.length_cons, List.length_nil]; omega) ?_
      refine Ev.bind (dec_i b3.1 (by omega)) ?_
      simp only [B_append]
      refine ifp (by simp only [B_size, List.length_append, List.length_cons, List.length_nil]; omega) ?_
      refine Ev.bind (dec_i (by omega : 0 ≤ f4) (by omega)) ?_
      simp only [B_append]
      refine ifp (by simp only [B_size, List.length_append, List.length_cons, List.length_nil]; omega) ?_
      refine ifp (by simp only [B_size, List.length_append, List.length_cons, List.length_nil]; omega) ?_
      refine ifp (by simp only [B_size, List.length_append, List.length_cons, List.length_nil]; omega) ?_
      by_cases hn : f5 < 0
      · have l6 := dec_len (n := (-f5).toNat) (by omega)
        refine ifp hn ?_
        refine ifp (by simp only [B_size, List.length_append, List.length_cons, List.length_nil]; omega) ?_
        rw [w_id (x := -f5) (by omega) (by omega)]
        refine Ev.bind (dec_i (by omega : 0 ≤ -f5) (by omega)) ?_
        rw [show (⟨#[45]⟩ : ByteArray) = B [45] from rfl]
        simp only [B_append]
        refine ifp (by simp only [B_size, List.length_append, List.length_cons, List.length_nil]; omega) ?_
        have : joinL 47 (words f0 f1 f2 f3 f4 f5) = dec f0.toNat ++ [47] ++ dec f1.toNat ++ [47] ++ dec f2.toNat ++ [47] ++ dec f3.toNat ++ ([47] ++ dec f4.toNat ++ [47]) ++ [45] ++ dec (-f5).toNat := by
          unfold joinL words turn
          rw [if_pos hn]
          simp
        rw [this]
        exact Ev.now _
      · have l6 := dec_len (n := f5.toNat) (by omega)
        refine ifn hn ?_
        refine Ev.bind (dec_i (by omega : 0 ≤ f5) (by omega)) ?_
        simp only [B_append]
        refine ifp (by simp only [B_size, List.length_append, List.length_cons, List.length_nil]; omega) ?_
        have : joinL 47 (words f0 f1 f2 f3 f4 f5) = dec f0.toNat ++ [47] ++ dec f1.toNat ++ [47] ++ dec f2.toNat ++ [47] ++ dec f3.toNat ++ ([47] ++ dec f4.toNat ++ [47]) ++ dec f5.toNat := by
          unfold joinL words turn
          rw [if_neg hn]
          simp
        rw [this]
        exact Ev.now _
    · have hi : IntKind.i16.wrap f5 = f5 := by simp [IntKind.wrap, IntKind.bits, IntKind.signed]; omega
      simp only [if_true, hi]
      have ht : impl_decimal.f f5 = some (B (turn f5)) := by
        unfold turn
        by_cases hn : f5 < 0
        · rw [if_pos hn]; exact impl_dec_neg hn (by omega)
        · rw [if_neg hn]; exact impl_dec (by omega) (by omega)
      have hwd : ∀ i : Nat, i < 6 → impl_decimal.f (wrap64 (rd [f0, f1, f2, f3, f4, f5] (i : Int))) = some (((words f0 f1 f2 f3 f4 f5).map B).getD i ⟨#[]⟩) := by
        intro i hi
        obtain rfl | rfl | rfl | rfl | rfl | rfl : i = 0 ∨ i = 1 ∨ i = 2 ∨ i = 3 ∨ i = 4 ∨ i = 5 := by omega
        · show impl_decimal.f (wrap64 f0) = some (B (dec f0.toNat))
          rw [w_id (by omega) (by omega)]; exact impl_dec (by omega) (by omega)
        · show impl_decimal.f (wrap64 f1) = some (B (dec f1.toNat))
          rw [w_id (by omega) (by omega)]; exact impl_dec (by omega) (by omega)
        · show impl_decimal.f (wrap64 f2) = some (B (dec f2.toNat))
          rw [w_id (by omega) (by omega)]; exact impl_dec (by omega) (by omega)
        · show impl_decimal.f (wrap64 f3) = some (B (dec f3.toNat))
          rw [w_id (by omega) (by omega)]; exact impl_dec (by omega) (by omega)
        · show impl_decimal.f (wrap64 f4) = some (B (dec f4.toNat))
          rw [w_id (by omega) (by omega)]; exact impl_dec (by omega) (by omega)
        · show impl_decimal.f (wrap64 f5) = some (B (turn f5))
          rw [w_id (by omega) (by omega)]; exact ht
      have hwl : ((words f0 f1 f2 f3 f4 f5).map B).length = 6 := rfl
      have h6 : ([f0, f1, f2, f3, f4, f5] : List Int).length = 6 := rfl
      refine ev_steps (F := fun k i (x : List ByteArray) => impl_WalkerText.l0 k x [f0, f1, f2, f3, f4, f5] (([f0, f1, f2, f3, f4, f5] : List Int).length : Int) i) 0 6 (Nat.zero_le _) (fun i => ((words f0 f1 f2 f3 f4 f5).map B).take i) (B (joinL 47 (words f0 f1 f2 f3 f4 f5))) (fun i _ hi hh => ?_) ?_
      · refine Ev.step (fun k => impl_WalkerText.l0.eq_2 _ _ _ _ k) ?_
        rw [List.take_succ_eq_append_getElem (by omega), ← getD_lt (show i < ((words f0 f1 f2 f3 f4 f5).map B).length by omega) ⟨#[]⟩] at hh
        simp only [h6, hwd i hi, Option.bind_some, if_pos (show (i : Int) < ((6 : Nat) : Int) by omega), if_pos (show (0 : Int) ≤ (i : Int) by omega), if_pos (show (((words f0 f1 f2 f3 f4 f5).map B).take i).length < 8796093022208 by rw [List.length_take]; omega), w_i hi (show 6 ≤ 4611686018427387904 by omega)]
        exact hh
      · refine Ev.step (fun k => impl_WalkerText.l0.eq_2 _ _ _ _ k) ?_
        rw [List.take_of_length_le (by omega)]
        have hj := join_t (words f0 f1 f2 f3 f4 f5) 47 (by
          unfold joinL words
          simp only [List.map_cons, List.map_nil, List.flatten_cons, List.flatten_nil, List.length_append, List.length_cons, List.length_nil]
          omega) (by unfold words; simp)
        simp only [h6, if_neg (show ¬ ((((6 : Nat) : Int)) < ((6 : Nat) : Int)) by omega), hslash, hj, Option.bind_some]
        exact Ev.now _
theorem FnExactWalkerText : SayFnExactWalkerText.Pure := by
  intro f0 f1 f2 f3 f4 f5 h0 h1 h2 h3 h4 h5
  refine Ev.rounds (?_ : Ev (fun k => laws_FnExactWalkerText.f k f0 f1 f2 f3 f4 f5) true)
  obtain ⟨r, e1, e2⟩ := both f0 f1 f2 f3 f4 f5 h0 h1 h2 h3 h4 h5
  unfold laws_FnExactWalkerText.f laws_toWalker.f
  simp only [Option.bind_some]
  refine Ev.bind e1 (Ev.bind e2 ?_)
  simp only [if_true]
  exact Ev.now _
end Go.Proofs.YthkifkfnlmjafaaDoor.PureFnExactWalkerText
