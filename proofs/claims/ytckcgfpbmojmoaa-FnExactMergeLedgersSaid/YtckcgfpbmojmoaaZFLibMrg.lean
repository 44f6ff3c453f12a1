import Derived.Test.YtckcgfpbmojmoaaZFLibSmk
import Derived.Test.YtckcgfpbmojmoaaZFLibMiss
import Derived.Test.YtckcgfpbmojmoaaZFLibEntry
import Derived.Test.YtckcgfpbmojmoaaZG7
import Derived.Test.YtckcgfpbmojmoaaZG7
namespace Go.Proofs.Ytckcgfpbmojmoaa.G
open Go.RowKit Go.Proofs.YtckcgfpbmojmoaaW.PrintWords Go.Proofs.YtckcgfpbmojmoaaW.PrintLast Go.Proofs.YtckcgfpbmojmoaaW.PrintMore
attribute [local go_sem] max2_int min2_int max_two min_two max_three min_three max_four min_four
set_option linter.unusedVariables false
set_option linter.unusedSimpArgs false
open Go.Proofs.Ytckcgfpbmojmoaa.Wk Go.Proofs.Ytckcgfpbmojmoaa.Pl
namespace MrgL
open SortL Miss
theorem so_adj {l : List SortL.E} (h : ∀ j, 0 < j → j < l.length → (l.getD (j - 1) z40).f0 ≤ (l.getD j z40).f0) : So l := by
  have key : ∀ d i, i + d < l.length → (l.getD i z40).f0 ≤ (l.getD (i + d) z40).f0 := by
    intro d
    induction d with
    | zero => intro i _; exact Int.le_refl _
    | succ d ih =>
      intro i hi
      have h1 := ih i (by omega)
      have h2 := h (i + (d + 1)) (by omega) hi
      exact Int.le_trans h1 h2
  refine List.pairwise_iff_getElem.2 fun i j hi hj hij => ?_
  have h1 := key (j - i) i (by omega)
  rw [show i + (j - i) = j by omega, getD_e l i hi, getD_e l j hj] at h1
  exact h1
theorem led_t {p : Int} {l : List SortL.E} (h : ledgerB p l = true) : So l ∧ l.length ≤ 80 := by
  unfold ledgerB at h
  simp only [Bool.and_eq_true, List.all_eq_true, List.mem_range, decide_eq_true_eq] at h
  refine ⟨so_adj fun j h0 h1 => ?_, h.2.1⟩
  have h2 := h.1 j h1
  unfold okAt at h2
  simp only [Bool.and_eq_true, Bool.not_eq_true', Bool.and_eq_false_iff, decide_eq_false_iff_not] at h2
  have := h2.2
  omega
theorem go_sub : ∀ (r bag out : List SortL.E), ∃ s, List.Sublist s r ∧ go r bag out = out ++ s
  | [], _, out => ⟨[], List.Sublist.slnil, by simp [go]⟩
  | x :: r, bag, out => by
    rw [go]
    split
    · obtain ⟨s, h1, h2⟩ := go_sub r (bag.erase x) out
      exact ⟨s, h1.cons x, h2⟩
    · obtain ⟨s, h1, h2⟩ := go_sub r bag (out ++ [x])
      exact ⟨x :: s, h1.cons_cons x, by rw [h2]; simp⟩
theorem miss_sub (x1 x2 : List SortL.E) : List.Sublist (go x2 x1 []) x2 := by
  obtain ⟨s, h1, h2⟩ := go_sub x2 x1 []
  rw [h2]
  simpa using h1
theorem mem_tw {p : SortL.E → Bool} : ∀ {l : List SortL.E} {y : SortL.E}, y ∈ l.takeWhile p → p y = true
  | [], y, h => by simp at h
  | x :: l, y, h => by
    rw [List.takeWhile_cons] at h
    split at h
    · rename_i hp
      rcases List.mem_cons.1 h with rfl | h
      · exact hp
      · exact mem_tw h
    · simp at h
def mg : List SortL.E → List SortL.E → List SortL.E
  | [], m => m
  | e :: x, m => m.takeWhile (fun y => decide (y.f0 < e.f0)) ++ e :: mg x (m.dropWhile (fun y => decide (y.f0 < e.f0)))
theorem mg_t : ∀ (x m : List SortL.E), So x → So m → So (mg x m) ∧ Sd (mg x m) (x ++ m) := by
  intro x
  induction x with
  | nil => intro m _ hm; exact ⟨hm, Sd.refl _⟩
  | cons e x ih =>
    intro m hx hm
    obtain ⟨p1, p2⟩ := List.pairwise_cons.1 hx
    have htd := List.takeWhile_append_dropWhile (p := fun y : SortL.E => decide (y.f0 < e.f0)) (l := m)
    have ht : ∀ y ∈ m.takeWhile (fun y => decide (y.f0 < e.f0)), y.f0 < e.f0 := fun y hy => by
      have := mem_tw hy
      simpa using this
    have hd : ∀ y ∈ m.dropWhile (fun y => decide (y.f0 < e.f0)), e.f0 ≤ y.f0 := by
      have hs : So (m.dropWhile (fun y => decide (y.f0 < e.f0))) := List.Pairwise.sublist (List.dropWhile_sublist _) hm
      cases hq : m.dropWhile (fun y => decide (y.f0 < e.f0)) with
      | nil => simp
      | cons z r =>
        rw [hq] at hs
        have hz : e.f0 ≤ z.f0 := by
          have h9 : ¬ (decide (z.f0 < e.f0) = true) := by
            have := List.head_dropWhile_not (fun y : SortL.E => decide (y.f0 < e.f0)) (l := m) (by rw [hq]; simp)
            simp only [hq, List.head_cons] at this
            simpa using this
          have : ¬ z.f0 < e.f0 := fun h => h9 (decide_eq_true h)
          omega
        intro y hy
        rcases List.mem_cons.1 hy with rfl | hy
        · exact hz
        · exact Int.le_trans hz ((List.pairwise_cons.1 hs).1 y hy)
    have hsT : So (m.takeWhile (fun y => decide (y.f0 < e.f0))) := List.Pairwise.sublist (List.takeWhile_sublist _) hm
    have hsD : So (m.dropWhile (fun y => decide (y.f0 < e.f0))) := List.Pairwise.sublist (List.dropWhile_sublist _) hm
    rw [mg]
    generalize m.takeWhile (fun y => decide (y.f0 < e.f0)) = T at htd ht hsT
    generalize m.dropWhile (fun y => decide (y.f0 < e.f0)) = D at htd hd hsD
    obtain ⟨a1, a2⟩ := ih D p2 hsD
    refine ⟨So.app hsT (List.pairwise_cons.2 ⟨fun y hy => ?_, a1⟩) fun y hy z hz => ?_, ?_⟩
    · rcases List.mem_append.1 (a2.mem hy) with hy | hy
      · exact p1 y hy
      · exact hd y hy
    · have h1 := ht y hy
      rcases List.mem_cons.1 hz with rfl | hz
      · omega
      · rcases List.mem_append.1 (a2.mem hz) with hz | hz
        · have := p1 z hz; omega
        · have := hd z hz; omega
    · have h1 : Sd (T ++ (e :: x)) ((e :: x) ++ T) := Sd.swap fun y hy z hz hyz => by
        have h2 := ht y hy
        rcases List.mem_cons.1 hz with rfl | hz
        · omega
        · have := p1 z hz; omega
      have h2 : Sd (T ++ (e :: mg x D)) (T ++ (e :: (x ++ D))) := (Sd.refl T).app ((Sd.refl [e]).app a2)
      have h3 := h1.app (Sd.refl D)
      rw [← htd]
      refine h2.trans ?_
      simpa using h3
theorem cat_t (x m : List SortL.E) (h : x.length + m.length < 100000) : Ev (fun k => impl_Entry_33.f k [x, m]) (x ++ m) := by
  have r0 : rd_L6 [x, m] 0 = x := rfl
  have r1 : rd_L6 [x, m] 1 = m := rfl
  have w0 : wrap64 (0 + (x.length : Int)) = (x.length : Int) := by unfold wrap64; omega
  have w1 : wrap64 ((x.length : Int) + (m.length : Int)) = ((x.length + m.length : Nat) : Int) := by unfold wrap64; omega
  have w2 : wrap64 (0 + 1) = 1 := by unfold wrap64; omega
  have w3 : wrap64 (1 + 1) = 2 := by unfold wrap64; omega
  simp only [impl_Entry_33.f]
  refine Ev.step (f := fun k => impl_Entry_33.l0 k [x, m] (x.length : Int) [x, m] 2 1) (fun k => ?_) ?_
  · show impl_Entry_33.l0 (k + 1) [x, m] 0 [x, m] 2 0 = _
    simp only [impl_Entry_33.l0, r0, w0, w2]
    rw [if_pos (by omega), if_pos (by omega), if_pos (by simp), if_neg (by omega)]
  refine Ev.step (f := fun k => impl_Entry_33.l0 k [x, m] ((x.length + m.length : Nat) : Int) [x, m] 2 2) (fun k => ?_) ?_
  · simp only [impl_Entry_33.l0, r1, w1, w3]
    rw [if_pos (by omega), if_pos (by omega), if_pos (by simp), if_neg (by omega)]
  refine Ev.step (f := fun k => impl_Entry_33.l1 k [] [x, m] 2 0) (fun k => ?_) ?_
  · simp only [impl_Entry_33.l0]
    rw [if_neg (by omega), if_pos (by omega)]
    rfl
  refine Ev.step (f := fun k => impl_Entry_33.l1 k x [x, m] 2 1) (fun k => ?_) ?_
  · simp only [impl_Entry_33.l1, r0, w2, List.nil_append]
    rw [if_pos (by omega), if_pos (by omega), if_pos (by simp), if_pos (by simp; omega)]
  refine Ev.step (f := fun k => impl_Entry_33.l1 k (x ++ m) [x, m] 2 2) (fun k => ?_) ?_
  · simp only [impl_Entry_33.l1, r1, w3]
    rw [if_pos (by omega), if_pos (by omega), if_pos (by simp), if_pos (by omega)]
  refine Ev.step (f := fun _ => some (x ++ m)) (fun k => ?_) (Ev.now _)
  simp only [impl_Entry_33.l1]
  rw [if_neg (by omega)]
theorem w_next {i : Nat} (h : i < 100000) : wrap64 ((i : Int) + 1) = ((i + 1 : Nat) : Int) := by unfold wrap64; omega
theorem rdE (l : List SortL.E) (i : Nat) (h : i < l.length) : rd_T40 l (i : Int) = l[i] := by simp [rd_T40, h]
theorem merge_t (x m : List SortL.E) (hx : x.length < 1000) (hm : m.length < 1000) : ∀ (d i j : Nat) (out : List SortL.E), (x.length - i) + (m.length - j) ≤ d → i ≤ x.length → j ≤ m.length → out.length = i + j →
    Ev (fun k => spec_MergeLedgers.l0 k x m out (j : Int) (i : Int)) (out ++ mg (x.drop i) (m.drop j), 0) ∧
    (i < x.length → Ev (fun k => spec_MergeLedgers.l1 k x m out (j : Int) (i : Int)) (out ++ mg (x.drop i) (m.drop j), 0)) := by
  intro d
  induction d with
  | zero =>
    intro i j out hd hi hj ho
    refine ⟨Ev.step (f := fun _ => some (out ++ mg (x.drop i) (m.drop j), 0)) (fun k => ?_) (Ev.now _), fun h => absurd h (by omega)⟩
    simp only [spec_MergeLedgers.l0]
    rw [if_neg (by omega), if_pos (by omega), if_pos (by omega), Option.bind_some, Int.toNat_natCast, if_pos (by simp; omega), show x.drop i = [] from List.drop_of_length_le (by omega)]
    rfl
  | succ d ih =>
    intro i j out hd hi hj ho
    have hl1 : i < x.length → Ev (fun k => spec_MergeLedgers.l1 k x m out (j : Int) (i : Int)) (out ++ mg (x.drop i) (m.drop j), 0) := by
      intro hlt
      have hxd : x.drop i = x[i] :: x.drop (i + 1) := List.drop_eq_getElem_cons hlt
      by_cases hc : j < m.length
      · have hmd : m.drop j = m[j] :: m.drop (j + 1) := List.drop_eq_getElem_cons hc
        by_cases hlt2 : m[j].f0 < x[i].f0
        · have h1 := (ih i (j + 1) (out ++ [m[j]]) (by omega) hi (by omega) (by simp; omega)).2 hlt
          have he : out ++ [m[j]] ++ mg (x.drop i) (m.drop (j + 1)) = out ++ mg (x.drop i) (m.drop j) := by
            rw [hxd, hmd, mg, mg, List.takeWhile_cons_of_pos (by simpa using hlt2), List.dropWhile_cons_of_pos (by simpa using hlt2)]
            simp
          rw [he] at h1
          refine Ev.step (fun k => ?_) h1
          simp only [spec_MergeLedgers.l1]
          rw [if_pos (by omega), if_pos (by omega), if_pos (by omega), if_pos (by omega), rdE m j hc, rdE x i hlt, if_pos hlt2, if_pos (by omega), w_next (by omega)]
        · have h1 := (ih (i + 1) j (out ++ [x[i]]) (by omega) (by omega) hj (by simp; omega)).1
          have he : out ++ [x[i]] ++ mg (x.drop (i + 1)) (m.drop j) = out ++ mg (x.drop i) (m.drop j) := by
            rw [hxd, mg, hmd, List.takeWhile_cons_of_neg (by simpa using hlt2), List.dropWhile_cons_of_neg (by simpa using hlt2)]
            simp
          rw [he] at h1
          refine Ev.step (fun k => ?_) h1
          simp only [spec_MergeLedgers.l1]
          rw [if_pos (by omega), if_pos (by omega), if_pos (by omega), if_pos (by omega), rdE m j hc, rdE x i hlt, if_neg hlt2, if_pos (by omega), w_next (by omega)]
      · have hmd : m.drop j = [] := List.drop_of_length_le (by omega)
        have h1 := (ih (i + 1) j (out ++ [x[i]]) (by omega) (by omega) hj (by simp; omega)).1
        have he : out ++ [x[i]] ++ mg (x.drop (i + 1)) (m.drop j) = out ++ mg (x.drop i) (m.drop j) := by
          rw [hxd, mg, hmd]
          simp
        rw [he] at h1
        refine Ev.step (fun k => ?_) h1
        simp only [spec_MergeLedgers.l1]
        rw [if_neg (by omega), if_pos (by omega), if_pos (by omega), rdE x i hlt, if_pos (by omega), w_next (by omega)]
    refine ⟨?_, hl1⟩
    by_cases hlt : i < x.length
    · refine Ev.step (fun k => ?_) (hl1 hlt)
      simp only [spec_MergeLedgers.l0]
      rw [if_pos (by omega)]
    · refine Ev.step (f := fun _ => some (out ++ mg (x.drop i) (m.drop j), 0)) (fun k => ?_) (Ev.now _)
      simp only [spec_MergeLedgers.l0]
      rw [if_neg (by omega), if_pos (by omega), if_pos (by omega), Option.bind_some, Int.toNat_natCast, if_pos (by simp; omega), show x.drop i = [] from List.drop_of_length_le (by omega)]
      rfl
def out (p : Int) (x1 x2 : List SortL.E) : List SortL.E × Int := if ledgerB p x1 = true ∧ ledgerB p x2 = true then (if 80 < x1.length + (go x2 x1 []).length then ([], 3) else (mg x1 (go x2 x1 []), 0)) else ([], 1)
theorem okE_sm {l : List SortL.E} (h : l.all okE = true) : Sm l := fun e he => by
  have := List.all_eq_true.1 h e he
  unfold okE at this
  simp only [Bool.and_eq_true, inB_iff] at this
  omega
theorem tells (p : Int) (x1 x2 : List SortL.E) (h1 : x1.length ≤ 1048576) (h2 : x2.length ≤ 1048576) (b1 : x1.all okE = true) (b2 : x2.all okE = true) :
    Ev (fun k => spec_MergeLedgers.f k p x1 x2) (out p x1 x2) ∧ Ev (fun k => impl_MergeLedgers.f k p x1 x2) (out p x1 x2) ∧ (out p x1 x2).1.length ≤ 80 := by
  have v1 := ev_of (validLedger_tells p x1 (by omega))
  have v2 := ev_of (validLedger_tells p x2 (by omega))
  have s1 : spec_l06Ledger.f p x1 = some (ledgerB p x1) := rfl
  have s2 : spec_l06Ledger.f p x2 = some (ledgerB p x2) := rfl
  unfold out
  by_cases c1 : ledgerB p x1 = true
  · by_cases c2 : ledgerB p x2 = true
    · rw [if_pos ⟨c1, c2⟩]
      rw [c1] at v1 s1
      rw [c2] at v2 s2
      obtain ⟨o1, l1⟩ := led_t c1
      obtain ⟨o2, l2⟩ := led_t c2
      have hsub := miss_sub x1 x2
      have om : So (go x2 x1 []) := List.Pairwise.sublist hsub o2
      have lm := hsub.length_le
      have sm : Sm (go x2 x1 []) := fun e he => okE_sm b2 e (hsub.subset he)
      have hmiss : impl_missing.f x2 x1 = some (go x2 x1 []) := by
        unfold impl_missing.f
        rw [if_pos ⟨by rw [b1, b2]; rfl, h2, h1⟩]
      have hsm := spec_tells x2 x1 h2 h1
      generalize go x2 x1 [] = m at *
      have hw : wrap64 ((x1.length : Int) + (m.length : Int)) = ((x1.length + m.length : Nat) : Int) := by unfold wrap64; omega
      obtain ⟨y, y1, y2, y3⟩ := sort_t (x1 ++ m) (by simp; omega) (Sm.app (okE_sm b1) sm)
      obtain ⟨g1, g2⟩ := mg_t x1 m o1 om
      have hy : y = mg x1 m := one_t _ _ y1 g1 (y2.trans g2.symm)
      subst hy; have hcat := cat_t x1 m (by omega)
      have hlen : (mg x1 m).length = x1.length + m.length := by rw [g2.1]; simp
      by_cases c3 : 80 < x1.length + m.length
      · rw [if_pos c3]
        refine ⟨?_, ?_, by simp⟩
        · simp only [spec_MergeLedgers.f, s1, s2, Option.bind_some, if_true, Bool.not_true]
          refine Ev.step (f := fun k => (spec_l06Missing.f k x2 x1).bind fun t => if wrap64 ((x1.length : Int) + (t.length : Int)) > 80 then some ([], 3) else spec_MergeLedgers.l0 k x1 t [] 0 0) (fun k => ?_) (Ev.bind hsm ?_)
          · simp only [spec_MergeLedgers.j0, Bool.false_eq_true, if_false]
          · simp only [hw, if_pos (show ((x1.length + m.length : Nat) : Int) > 80 by omega)]
            exact Ev.now _
        · simp only [impl_MergeLedgers.f]
          refine Ev.bind v1 ?_
          simp only [if_true]
          refine Ev.bind v2 ?_
          refine Ev.step (f := fun k => (impl_Entry_33.f k [x1, m]).bind fun t => if (t.length : Int) > 80 then some ([], 3) else (impl_Entry_35.f k t).bind fun t2 => some (t2, 0)) (fun k => ?_) (Ev.bind hcat ?_)
          · simp only [impl_MergeLedgers.j0, Bool.not_true, Bool.false_eq_true, if_false, hmiss, Option.bind_some]
          · simp only [List.length_append, if_pos (show ((x1.length + m.length : Nat) : Int) > 80 by omega)]
            exact Ev.now _
      · rw [if_neg c3]
        refine ⟨?_, ?_, by simp only [hlen]; omega⟩
        · simp only [spec_MergeLedgers.f, s1, s2, Option.bind_some, if_true, Bool.not_true]
          refine Ev.step (f := fun k => (spec_l06Missing.f k x2 x1).bind fun t => if wrap64 ((x1.length : Int) + (t.length : Int)) > 80 then some ([], 3) else spec_MergeLedgers.l0 k x1 t [] 0 0) (fun k => ?_) (Ev.bind hsm ?_)
          · simp only [spec_MergeLedgers.j0, Bool.false_eq_true, if_false]
          · simp only [hw, if_neg (show ¬ ((x1.length + m.length : Nat) : Int) > 80 by omega)]
            simpa using (merge_t x1 m (by omega) (by omega) _ 0 0 [] (Nat.le_refl _) (by omega) (by omega) rfl).1
        · simp only [impl_MergeLedgers.f]
          refine Ev.bind v1 ?_
          simp only [if_true]
          refine Ev.bind v2 ?_
          refine Ev.step (f := fun k => (impl_Entry_33.f k [x1, m]).bind fun t => if (t.length : Int) > 80 then some ([], 3) else (impl_Entry_35.f k t).bind fun t2 => some (t2, 0)) (fun k => ?_) (Ev.bind hcat ?_)
          · simp only [impl_MergeLedgers.j0, Bool.not_true, Bool.false_eq_true, if_false, hmiss, Option.bind_some]
          · simp only [List.length_append, if_neg (show ¬ ((x1.length + m.length : Nat) : Int) > 80 by omega)]
            exact Ev.bind y3 (Ev.now _)
    · rw [if_neg (fun h => c2 h.2)]
      rw [c1] at v1 s1
      rw [Bool.eq_false_iff.2 c2] at v2 s2
      refine ⟨?_, ?_, by simp⟩
      · simp only [spec_MergeLedgers.f, s1, s2, Option.bind_some, if_true, Bool.not_false]
        refine Ev.step (f := fun _ => some ([], 1)) (fun k => ?_) (Ev.now _)
        simp only [spec_MergeLedgers.j0, if_true]
      · simp only [impl_MergeLedgers.f]
        refine Ev.bind v1 ?_
        simp only [if_true]
        refine Ev.bind v2 ?_
        refine Ev.step (f := fun _ => some ([], 1)) (fun k => ?_) (Ev.now _)
        simp only [impl_MergeLedgers.j0, Bool.not_false, if_true]
  · rw [if_neg (fun h => c1 h.1)]
    rw [Bool.eq_false_iff.2 c1] at v1 s1
    refine ⟨?_, ?_, by simp⟩
    · simp only [spec_MergeLedgers.f, s1, Option.bind_some, Bool.false_eq_true, if_false]
      refine Ev.step (f := fun _ => some ([], 1)) (fun k => ?_) (Ev.now _)
      simp only [spec_MergeLedgers.j0, if_true]
    · simp only [impl_MergeLedgers.f]
      refine Ev.bind v1 ?_
      simp only [Bool.false_eq_true, if_false]
      refine Ev.step (f := fun _ => some ([], 1)) (fun k => ?_) (Ev.now _)
      simp only [impl_MergeLedgers.j0, if_true]
end MrgL
end Go.Proofs.Ytckcgfpbmojmoaa.G
