/- FnExactDiscordOf: the program's DiscordOf answers as the reference's does, for all numbers of samples and all lists that the law lets in. No condition. -/
import Derived.Test.YtmfnlaodcblglaaSayFnExactDiscordOf
import Derived.Test.YtmfnlaodcblglaaFHpI64
import Derived.Test.YtmfnlaodcblglaaFOrder
import Derived.Test.YtmfnlaodcblglaaFLibI64
import Derived.Test.YtmfnlaodcblglaaFLibPerm
namespace Go.Proofs.Ytmfnlaodcblglaa.PureFnExactDiscordOf
open Go.RowKit Go.Proofs.YtmfnlaodcblglaaW.PrintWords Go.Proofs.Ytmfnlaodcblglaa.G Go.Proofs.Ytmfnlaodcblglaa.SayFnExactDiscordOf Go.Proofs.Ytmfnlaodcblglaa.Wk Go.Proofs.Ytmfnlaodcblglaa.Pl
set_option linter.unusedSimpArgs false
set_option linter.unusedVariables false

theorem areSamples_tells2 (n : Int) : impl_areSamples.f n = some (inB n 1 8) := by
  unfold impl_areSamples.f
  simp only [within_tells2, Option.bind_some]
theorem where_tells (l : List Int) (x : Int) (hl : l.length ≤ 1048576) (hx : x ∈ l) : Ev (fun k => spec_l07Where.f k l x) (idxI l x) := by
  unfold spec_l07Where.f
  rcases first_bad (fun j => !(l.getD j 0 == x)) l.length with h | ⟨m, hm, hbad, hb⟩
  · obtain ⟨j, hj, rfl⟩ := List.getElem_of_mem hx
    have := h j hj
    simp [List.getD, hj] at this
  · have hp : (l.getD m 0 == x) = true := by simpa using hbad
    have e : idxI l x = (m : Int) := by
      unfold idxI
      have : (List.range l.length).find? (fun j => l.getD j 0 == x) = some m := by
        rw [List.find?_range_eq_some]
        exact ⟨hp, List.mem_range.2 hm, fun i hi => by simpa using hb i hi⟩
      rw [this]
    rw [e]
    refine ev_steps (F := fun k i (_ : Unit) => spec_l07Where.l0 k l x i) 0 m (Nat.zero_le _) (fun _ => ()) _ (fun i _ hi h => ?_) ?_
    · refine Ev.step (fun k => ?_) h
      have h3 : (i : Int) < (l.length : Int) := by omega
      have h4 := hb i hi
      simp only [spec_l07Where.l0]
      rw [if_pos (by omega), if_pos h3, w_i (by omega : i < l.length) (by omega), if_neg]
      simpa [rd] using h4
    · refine Ev.step (fun k => ?_) (Ev.now _)
      have h3 : (m : Int) < (l.length : Int) := by omega
      show spec_l07Where.l0 (k + 1) l x (m : Int) = _
      simp only [spec_l07Where.l0]
      rw [if_pos (by omega), if_pos h3, if_pos]
      simpa [rd] using hp
theorem sums (q : Nat) (hq : 1 ≤ q) (hq2 : q ≤ 8) (a b : List Int) (ha : a.length = q) (hb : b.length = q) (oa : orderB q a = true) (ob : orderB q b = true) :
    ∃ r, Ev (fun k => spec_DiscordOf.l0 k a b 0 0) r ∧ Ev (fun k => impl_DiscordOf.l0 k a b 0 a q 0) r := by
  have hmem : ∀ i : Nat, i < q → a.getD i 0 ∈ b := fun i hi => by
    have := order_in hq hq2 ha oa i hi
    exact order_has hq hq2 hb ob _ this.1 this.2
  have hw : ∀ i : Nat, i < q → Ev (fun k => spec_l07Where.f k b (a.getD i 0)) (idxI b (a.getD i 0)) := fun i hi => where_tells b _ (by omega) (hmem i hi)
  have hx : ∀ i : Nat, i < q → Ev (fun k => slices_Index_int64_int64.f k b (a.getD i 0)) (idxI b (a.getD i 0)) := fun i hi => index_tells b _ (by omega)
  have rd_nat : ∀ (l : List Int) (j : Nat), rd l (j : Int) = l.getD j 0 := fun _ _ => rfl
  have key : ∀ d (i : Nat) (acc : Int), i + d = q → ∃ r, Ev (fun k => spec_DiscordOf.l0 k a b acc i) r ∧ Ev (fun k => impl_DiscordOf.l0 k a b acc a q i) r := by
    intro d
    induction d with
    | zero =>
      intro i acc hi
      obtain rfl : i = q := by omega
      refine ⟨(acc, 0), Ev.step (fun k => spec_DiscordOf.l0.eq_2 _ _ _ _ k) ?_, Ev.step (fun k => impl_DiscordOf.l0.eq_2 _ _ _ _ _ _ k) ?_⟩
      · simp only [ha, if_neg (show ¬ ((i : Int) < (i : Int)) by omega)]
        exact Ev.now _
      · simp only [if_neg (show ¬ ((i : Int) < (i : Int)) by omega)]
        exact Ev.now _
    | succ d ih =>
      intro i acc hi
      have hi1 : i < q := by omega
      have hdl : (a.drop (i + 1)).length = q - (i + 1) := by rw [List.length_drop, ha]
      have key1 : ∀ e (p : Nat) (acc : Int), i + 1 + p + e = q → ∃ r, Ev (fun k => spec_DiscordOf.l1 k a b acc i ((i + 1 + p : Nat) : Int)) r ∧ Ev (fun k => impl_DiscordOf.l1 k a b acc (a.getD i 0) a q i (a.drop (i + 1)) ((q - (i + 1) : Nat) : Int) p) r := by
        intro e
        induction e with
        | zero =>
          intro p acc hp
          obtain ⟨r, h1, h2⟩ := ih (i + 1) acc (by omega)
          refine ⟨r, Ev.step (fun k => spec_DiscordOf.l1.eq_2 _ _ _ _ _ k) ?_, Ev.step (fun k => impl_DiscordOf.l1.eq_2 _ _ _ _ _ _ _ _ _ _ k) ?_⟩
          · simp only [ha, if_neg (show ¬ (((i + 1 + p : Nat) : Int) < (q : Int)) by omega), w_i hi1 (show q ≤ 4611686018427387904 by omega)]
            exact h1
          · simp only [if_neg (show ¬ ((p : Int) < ((q - (i + 1) : Nat) : Int)) by omega), w_i hi1 (show q ≤ 4611686018427387904 by omega)]
            exact h2
        | succ e ih2 =>
          intro p acc hp
          have hj1 : i + 1 + p < q := by omega
          have hd : (a.drop (i + 1)).getD p 0 = a.getD (i + 1 + p) 0 := by simp [List.getD, List.getElem?_drop]
          obtain ⟨r, h1, h2⟩ := ih2 (p + 1) (if idxI b (a.getD i 0) > idxI b (a.getD (i + 1 + p) 0) then wrap64 (acc + 1) else acc) (by omega)
          refine ⟨r, Ev.step (fun k => spec_DiscordOf.l1.eq_2 _ _ _ _ _ k) ?_, Ev.step (fun k => impl_DiscordOf.l1.eq_2 _ _ _ _ _ _ _ _ _ _ k) ?_⟩
          · simp only [ha, rd_nat, if_pos (show (((i + 1 + p : Nat) : Int) < (q : Int)) by omega), if_pos (show (0 : Int) ≤ (i : Int) by omega), if_pos (show (i : Int) < (q : Int) by omega), if_pos (show (0 : Int) ≤ ((i + 1 + p : Nat) : Int) by omega), w_i hj1 (show q ≤ 4611686018427387904 by omega)]
            refine Ev.bind (hw i hi1) (Ev.bind (hw _ hj1) ?_)
            by_cases c : idxI b (a.getD i 0) > idxI b (a.getD (i + 1 + p) 0)
            · simp only [if_pos c] at h1 ⊢
              exact h1
            · simp only [if_neg c] at h1 ⊢
              exact h1
          · simp only [hdl, rd_nat, hd, if_pos (show (p : Int) < ((q - (i + 1) : Nat) : Int) by omega), if_pos (show (0 : Int) ≤ (p : Int) by omega), w_i (show p < q by omega) (show q ≤ 4611686018427387904 by omega)]
            refine Ev.bind (hx i hi1) (Ev.bind (hx _ hj1) ?_)
            by_cases c : idxI b (a.getD i 0) > idxI b (a.getD (i + 1 + p) 0)
            · simp only [if_pos c] at h2 ⊢
              exact h2
            · simp only [if_neg c] at h2 ⊢
              exact h2
      obtain ⟨r, h1, h2⟩ := key1 (q - (i + 1)) 0 acc (by omega)
      refine ⟨r, Ev.step (fun k => spec_DiscordOf.l0.eq_2 _ _ _ _ k) ?_, Ev.step (fun k => impl_DiscordOf.l0.eq_2 _ _ _ _ _ _ k) ?_⟩
      · simp only [ha, if_pos (show (i : Int) < (q : Int) by omega), w_i hi1 (show q ≤ 4611686018427387904 by omega)]
        exact h1
      · simp only [ha, rd_nat, if_pos (show (i : Int) < (q : Int) by omega), if_pos (show (0 : Int) ≤ (i : Int) by omega), w_i hi1 (show q ≤ 4611686018427387904 by omega), if_pos (show (0 : Int) ≤ ((i + 1 : Nat) : Int) by omega), if_pos (show ((i + 1 : Nat) : Int) ≤ (q : Int) by omega), Int.toNat_natCast, hdl]
        exact h2
  exact key q 0 0 (by omega)
theorem same (s : Int) (a b : List Int) (ha : a.length ≤ 1048576) (hb : b.length ≤ 1048576) : ∃ r, Ev (fun k => spec_DiscordOf.f k s a b) r ∧ Ev (fun k => impl_DiscordOf.f k s a b) r := by
  unfold spec_DiscordOf.f impl_DiscordOf.f spec_l07Samples.f spec_l07Order.f impl_IsOrder.f
  simp only [l00In_tells2, areSamples_tells2, Option.bind_some, if_pos (show a.length ≤ 1099511627776 by omega), if_pos (show b.length ≤ 1099511627776 by omega)]
  have bad : ∀ (k : Nat), spec_DiscordOf.j0 (k + 1) a b true = some (0, 4) := fun k => by rw [spec_DiscordOf.j0.eq_2, if_pos rfl]
  by_cases hin : inB s 1 8 = true
  · simp only [hin, Bool.true_and, if_true]
    by_cases hoa : (decide ((a.length : Int) = s) && orderB s a) = true
    · simp only [if_pos hoa]
      by_cases hob : (decide ((b.length : Int) = s) && orderB s b) = true
      · simp only [hob, if_true, Bool.not_true]
        have h := hin
        unfold inB at h
        simp only [Bool.and_eq_true, decide_eq_true_eq] at h hoa hob
        obtain ⟨q, rfl⟩ : ∃ q : Nat, s = q := ⟨s.toNat, by omega⟩
        obtain ⟨r, h1, h2⟩ := sums q (by omega) (by omega) a b (by omega) (by omega) hoa.2 hob.2
        refine ⟨r, Ev.step (fun k => spec_DiscordOf.j0.eq_2 _ _ _ k) ?_, ?_⟩
        · simp only [if_neg Bool.false_ne_true]
          exact h1
        · rw [show a.length = q by omega]
          exact h2
      · simp only [if_neg hob, Bool.eq_false_iff.2 hob, Bool.not_false]
        exact ⟨(0, 4), Ev.step bad (Ev.now _), Ev.now _⟩
    · simp only [if_neg hoa]
      exact ⟨(0, 4), Ev.step bad (Ev.now _), Ev.now _⟩
  · simp only [if_neg hin]
    exact ⟨(0, 2), Ev.now _, Ev.now _⟩
theorem FnExactDiscordOf : SayFnExactDiscordOf.Pure := by
  intro s a b _ ha _ hb _
  refine Ev.rounds (?_ : Ev (fun k => laws_FnExactDiscordOf.f k s a b) true)
  unfold laws_FnExactDiscordOf.f
  by_cases hbig : (a.length : Int) > 1048576
  · simp only [if_pos hbig]
    exact Ev.now _
  simp only [if_neg hbig]
  by_cases hbig2 : (b.length : Int) > 1048576
  · simp only [if_pos hbig2]
    exact Ev.now _
  simp only [if_neg hbig2]
  obtain ⟨r, hr1, hr2⟩ := same s a b (by omega) (by omega)
  repeat (first
    | exact Ev.now _
    | refine Ev.bind (by first | exact hr1 | exact hr2 | exact ev_of (toInt64S_tells a ha) | exact ev_of (toInt64S_tells b hb) | exact ev_of (eqInt64S_tells a (by omega)) | exact ev_of (eqInt64S_tells b (by omega))) ?_
    | simp only [Option.bind_some, if_true, bne_self, if_neg Bool.false_ne_true]
    | refine Ev.step (fun k => laws_FnExactDiscordOf.j0.eq_2 _ _ _ _ _ k) ?_)
end Go.Proofs.Ytmfnlaodcblglaa.PureFnExactDiscordOf
