/- FnExactPartOfLedger: the program's PartOfLedger answers as the reference's does, for all ledgers and parties that the law lets in; its result shares no memory. No condition. -/
import Derived.Test.YtgjkpjagmhdfgaaSayFnExactPartOfLedger
import Derived.Test.YtgjkpjagmhdfgaaFHpEntry
import Derived.Test.YtgjkpjagmhdfgaaFLibEntry
import Derived.Test.YtgjkpjagmhdfgaaFPartL
namespace Go.Proofs.Ytgjkpjagmhdfgaa.PureFnExactPartOfLedger
open Go.RowKit Go.Proofs.YtgjkpjagmhdfgaaW.PrintWords Go.Proofs.Ytgjkpjagmhdfgaa.G Go.Proofs.Ytgjkpjagmhdfgaa.SayFnExactPartOfLedger Go.Proofs.Ytgjkpjagmhdfgaa.Wk Go.Proofs.Ytgjkpjagmhdfgaa.Pl PartL
set_option linter.unusedSimpArgs false
set_option linter.unusedVariables false
def out (p : Int) (l : List E) (q : Int) : List E × Int := if Sm.code (ledgerB p l) (inB q 0 (wrap64 (p - 1))) = 0 then (l.filter (fun x => !(off q x)), 0) else ([], Sm.code (ledgerB p l) (inB q 0 (wrap64 (p - 1))))
theorem l00In_t (x lo hi : Int) : spec_l00In.f x lo hi = some (inB x lo hi) := by
  unfold spec_l00In.f inB
  by_cases h : lo ≤ x <;> simp [h]
theorem loop (l : List E) (q : Int) (hl : l.length ≤ 1048576) : Ev (fun k => spec_PartOfLedger.l0 k l q [] 0) (l.filter (fun x => !(off q x)), (0 : Int)) := by
  have h := ev_steps (F := fun k i (s : List E) => spec_PartOfLedger.l0 k l q s i) 0 l.length (Nat.zero_le _) (fun i => (l.take i).filter (fun x => !(off q x))) (l.filter (fun x => !(off q x)), (0 : Int)) (fun i _ hi h => by
    have h3 : (i : Int) < (l.length : Int) := by omega
    have hr : rd_T63 l (i : Int) = l.getD i z63 := rfl
    have hlen : ((l.take i).filter (fun x => !(off q x))).length < 17592186044416 := by
      have := List.length_filter_le (fun x => !(off q x)) (l.take i)
      have := List.length_take_le i l
      omega
    have htk : (l.take (i + 1)).filter (fun x => !(off q x)) = (l.take i).filter (fun x => !(off q x)) ++ [l.getD i z63].filter (fun x => !(off q x)) := by rw [List.take_succ_eq_append_getElem hi, List.filter_append, getD_lt hi]
    generalize l.getD i z63 = x at hr htk
    by_cases c1 : wrap64 x.f1 = q
    · refine Ev.step (fun k => ?_) h
      simp only [spec_PartOfLedger.l0]
      rw [if_pos h3, if_pos (by omega), hr, if_pos c1, if_pos hlen, w_i hi (by omega), htk, List.filter_cons_of_pos (by unfold off; simp [c1]), List.filter_nil]
    · by_cases c2 : wrap64 x.f2 = q
      · refine Ev.step (fun k => ?_) h
        simp only [spec_PartOfLedger.l0]
        rw [if_pos h3, if_pos (by omega), hr, if_neg c1, if_pos c2, if_pos hlen, w_i hi (by omega), htk, List.filter_cons_of_pos (by unfold off; simp [c2]), List.filter_nil]
      · refine Ev.step (fun k => ?_) h
        simp only [spec_PartOfLedger.l0]
        rw [if_pos h3, if_pos (by omega), hr, if_neg c1, if_neg c2, w_i hi (by omega), htk, List.filter_cons_of_neg (by unfold off; simp [c1, c2]), List.filter_nil, List.append_nil]) (Ev.step (fun k => by
    simp only [spec_PartOfLedger.l0]
    rw [if_neg (by omega), List.take_length]) (Ev.now _))
  simpa using h
theorem spec_tells (p : Int) (l : List E) (q : Int) (hl : l.length ≤ 1048576) : Ev (fun k => spec_PartOfLedger.f k p l q) (out p l q) := by
  unfold spec_PartOfLedger.f out spec_l06Ledger.f Sm.code
  simp only [Option.bind_some, l00In_t]
  cases ledgerB p l
  · simp only [Bool.false_eq_true, if_false, if_neg (show ¬ (1 : Int) = 0 by omega)]
    exact Ev.now _
  · cases inB q 0 (wrap64 (p - 1))
    · simp only [Bool.false_eq_true, if_false, if_true, if_neg (show ¬ (2 : Int) = 0 by omega)]
      exact Ev.now _
    · simp only [if_true]
      exact loop l q hl
theorem impl_tells (p : Int) (l : List E) (q : Int) (hl : l.length ≤ 1048576) : impl_PartOfLedger.f p l q = some (out p l q) := by
  unfold impl_PartOfLedger.f out
  rw [if_pos hl]
theorem out_len (p : Int) (l : List E) (q : Int) : (out p l q).1.length ≤ l.length := by
  unfold out
  split
  · exact List.length_filter_le _ _
  · simp
theorem FnExactPartOfLedger : SayFnExactPartOfLedger.Pure := by
  intro p a q _ ha _ _
  refine Ev.rounds (?_ : Ev (fun k => laws_FnExactPartOfLedger.f k p a q) true)
  unfold laws_FnExactPartOfLedger.f
  simp only [szEntryS_tells a ha 1048576 (by omega) (by omega), Option.bind_some]
  by_cases h1 : (1048576 : Int) < a.length
  · simp only [if_pos h1]
    exact Ev.now _
  · simp only [if_neg h1, if_neg (show ¬ ((1048576 : Int) - a.length < 0) by omega)]
    have T1 := ev_of (toEntryS_tells a ha)
    have hl1 : (a.map cEntry).length = a.length := by simp
    generalize a.map cEntry = L at T1 hl1
    have t1 := spec_tells p L q (by omega)
    have t2 := impl_tells p L q (by omega)
    have t3 := out_len p L q
    generalize out p L q = O at t1 t2 t3
    obtain ⟨O1, O2⟩ := O
    simp only at t3
    have A1 := ev_of (eqEntryS_tells L (by omega))
    have A3 := ev_of (eqEntryS_tells O1 (by omega))
    have A4 := ev_of (markEntryS_tells L (by omega) 1 (by omega) (by omega))
    have A6 := ev_of (markEntryS_tells O1 (by omega) 1 (by omega) (by omega))
    have A7 := ev_of (heldEntryS_tells O1.length (by omega) 1 (by omega) (by omega))
    have A8 : ¬ (cnt 1 5 L.length < 0) := cnt_ok (by omega)
    have A9 : ¬ (cnt 1 5 O1.length < 0) := cnt_ok (by omega)
    clear hl1 t3 h1 ha
    repeat (first
      | exact Ev.now _
      | simp only [t2, Option.bind_some]
      | refine Ev.bind t1 ?_
      | refine Ev.bind T1 ?_
      | refine Ev.bind A1 ?_
      | refine Ev.bind A3 ?_
      | refine Ev.bind A4 ?_
      | refine Ev.bind A6 ?_
      | refine Ev.bind A7 ?_
      | simp only [if_true, bne_self, if_neg Bool.false_ne_true, if_neg A8, if_neg A9]
      | refine Ev.step (fun k => laws_FnExactPartOfLedger.j0.eq_2 ..) ?_
      | refine Ev.step (fun k => laws_FnExactPartOfLedger.j1.eq_2 ..) ?_
      | refine Ev.step (fun k => laws_FnExactPartOfLedger.j2.eq_2 ..) ?_)
end Go.Proofs.Ytgjkpjagmhdfgaa.PureFnExactPartOfLedger
