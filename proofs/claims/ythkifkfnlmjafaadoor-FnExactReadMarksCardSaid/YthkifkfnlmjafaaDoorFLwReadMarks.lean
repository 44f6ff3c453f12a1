/- laws.FnExactReadMarks answers true, whatever came in: walked by hand. Printed by wip/tools/lwread.py. -/
import Derived.Test.YthkifkfnlmjafaaDoorPl
import Derived.Test.YthkifkfnlmjafaaDoorFHpI64
import Derived.Test.YthkifkfnlmjafaaDoorFLwLib
import Derived.Test.YthkifkfnlmjafaaDoorFHpMarks
import Derived.Test.YthkifkfnlmjafaaDoorFMarkMarks
import Derived.Test.YthkifkfnlmjafaaDoorFLibRead
import Derived.Test.YthkifkfnlmjafaaDoorFLibMarks
import Derived.Test.YthkifkfnlmjafaaDoorFLibI64
import Derived.Test.YthkifkfnlmjafaaDoorFVMarks
import Derived.Test.YthkifkfnlmjafaaDoorG1
import Derived.Test.YthkifkfnlmjafaaDoorG2
namespace Go.Proofs.YthkifkfnlmjafaaDoor.G
open Go.RowKit Go.Proofs.YthkifkfnlmjafaaDoorW.PrintWords Go.Proofs.YthkifkfnlmjafaaDoorW.PrintLast Go.Proofs.YthkifkfnlmjafaaDoorW.PrintMore
attribute [local go_sem] max2_int min2_int max_two min_two max_three min_three max_four min_four   -- for this text's walks alone
set_option linter.unusedVariables false
set_option linter.unusedSimpArgs false

open Go.Proofs.YthkifkfnlmjafaaDoor.Wk Go.Proofs.YthkifkfnlmjafaaDoor.Pl
open Txr
namespace LwReadMarks
def okN (w : List UInt8) : Bool := (num w).isSome
def okP (w : List UInt8) : Bool := match num w with | some v => decide (v ≤ 20) | none => false
def val (w : List UInt8) : Int := (((num w).getD 0 : Nat) : Int)
def row (x : List UInt8) : List Int := (cut 32 x).map val
def fin (s : Int) (x : List (List Int)) : List (List Int) × Int := if marksB s x = true then (x, 0) else ([], 5)
theorem B_nil : (Txt.B [] : ByteArray) = ByteArray.empty := rfl
theorem rd_B (ws : List (List UInt8)) (i : Nat) (h : i < ws.length) : rdOf ByteArray.empty (ws.map Txt.B) (i : Int) = Txt.B ws[i] := by
  unfold rdOf
  rw [show (i : Int).toNat = i by omega, List.getD_eq_getElem?_getD, List.getElem?_map, List.getElem?_eq_getElem h]
  rfl
/-! spec -/
theorem s_words (s : Int) (ls : List ByteArray) (n t : Int) (out : List (List Int)) (ws : List (List UInt8)) (hw : ws.length ≤ 1048577) (hs : ∀ x ∈ ws, x.length ≤ 1048576) (r : List (List Int) × Int)
    (hyes : ws.all okN = true → Ev (fun k => spec_ReadMarks.l0 k s ls n (out ++ [ws.map val]) (wrap64 (t + 1))) r) (hno : ws.all okN = false → r = ([], 5)) (ho : out.length ≤ 1048577) :
    Ev (fun k => spec_ReadMarks.l1 k s ls n out t (ws.map Txt.B) [] 0) r := by
  have key : ∀ d (i : Nat), i + d = ws.length → (ws.take i).all okN = true → Ev (fun k => spec_ReadMarks.l1 k s ls n out t (ws.map Txt.B) ((ws.take i).map val) (i : Int)) r := by
    intro d
    induction d with
    | zero =>
      intro i hi ha
      refine Ev.step (fun k => spec_ReadMarks.l1.eq_2 _ _ _ _ _ _ _ _ k) ?_
      rw [List.take_of_length_le (by omega)] at ha ⊢
      refine ifn (by rw [List.length_map]; omega) (ifp (by omega) ?_)
      exact hyes ha
    | succ d ih =>
      intro i hi ha
      have hi1 : i < ws.length := by omega
      refine Ev.step (fun k => spec_ReadMarks.l1.eq_2 _ _ _ _ _ _ _ _ k) ?_
      refine ifp (by rw [List.length_map]; omega) (ifp (by omega) ?_)
      rw [rd_B ws i hi1, w_i hi1 (by omega)]
      refine Ev.bind (number_t ws[i] (hs _ (List.getElem_mem hi1))) ?_
      cases e : num ws[i] with
      | none =>
        have : numR ws[i] = (0, false) := by unfold numR; rw [e]
        rw [this]
        refine ifn (by simp) ?_
        rw [hno]
        · exact Ev.now _
        · rw [List.all_eq_false]
          exact ⟨_, List.getElem_mem hi1, by unfold okN; rw [e]; simp⟩
      | some v =>
        have : numR ws[i] = ((v : Int), true) := by unfold numR; rw [e]
        rw [this]
        refine ifp rfl (ifp (by simp; omega) ?_)
        have hh := ih (i + 1) (by omega) (by
          rw [List.take_add_one, List.getElem?_eq_getElem hi1]
          simp only [List.all_append, ha, Bool.true_and, Option.toList_some, List.all_cons, List.all_nil, Bool.and_true]
          unfold okN; rw [e]; rfl)
        rw [List.take_add_one, List.getElem?_eq_getElem hi1, Option.toList_some, List.map_append, List.map_cons, List.map_nil] at hh
        have ev : val ws[i] = (v : Int) := by unfold val; rw [e]; rfl
        rw [ev] at hh
        exact hh
  have := key ws.length 0 (by omega) (by simp)
  simpa using this
theorem fin_ev (s : Int) (x : List (List Int)) (hm : x.length ≤ 1048576) (hx : ∀ y ∈ x, (y.length : Int) ≤ 1048576) : Ev (fun k => (spec_l07Ok.f k s x).bind fun t132 => (if t132 = true then (some (x, 0)) else (some ((([] : List (List Int))), 5)))) (fin s x) := by
  refine Ev.bind (l07Ok_tells s x hm hx) ?_
  unfold fin
  by_cases h : marksB s x = true
  · simp only [if_pos h]; exact Ev.now _
  · simp only [if_neg h]; exact Ev.now _
theorem s_lines (s : Int) (ls : List (List UInt8)) (n : Nat) (hn : n + 1 = ls.length) (h12 : n ≤ 12) (hs : ∀ x ∈ ls, x.length ≤ 1048575) : Ev (fun k => spec_ReadMarks.l0 k s (ls.map Txt.B) (n : Int) [] 0) (if (ls.take n).all (fun x => (cut 32 x).all okN) = true then fin s ((ls.take n).map row) else ([], 5)) := by
  have key : ∀ d (i : Nat), i + d = n → (ls.take i).all (fun x => (cut 32 x).all okN) = true → Ev (fun k => spec_ReadMarks.l0 k s (ls.map Txt.B) (n : Int) ((ls.take i).map row) (i : Int)) (if (ls.take n).all (fun x => (cut 32 x).all okN) = true then fin s ((ls.take n).map row) else ([], 5)) := by
    intro d
    induction d with
    | zero =>
      intro i hi ha
      obtain rfl : i = n := by omega
      refine Ev.step (fun k => spec_ReadMarks.l0.eq_2 _ _ _ _ _ k) ?_
      refine ifn (by omega) ?_
      rw [if_pos ha]
      refine fin_ev s _ (by simp; omega) fun y hy => ?_
      obtain ⟨x, hx, rfl⟩ := List.mem_map.1 hy
      have h1 := cut_len 32 x
      have h2 := hs x (List.mem_of_mem_take hx)
      unfold row
      rw [List.length_map]
      omega
    | succ d ih =>
      intro i hi ha
      have hi1 : i < ls.length := by omega
      have hin : i < n := by omega
      refine Ev.step (fun k => spec_ReadMarks.l0.eq_2 _ _ _ _ _ k) ?_
      refine ifp (by omega) (ifp (by omega) (ifp (by rw [List.length_map]; omega) ?_))
      rw [rd_B ls i hi1]
      have hl := hs _ (List.getElem_mem hi1)
      refine Ev.bind (lsplit_t 32 ls[i] (by omega)) ?_
      have e1 : ls.take (i + 1) = ls.take i ++ [ls[i]] := by rw [List.take_add_one, List.getElem?_eq_getElem hi1]; rfl
      refine s_words s (ls.map Txt.B) n i _ (cut 32 ls[i]) (by have := cut_len 32 ls[i]; omega) (fun x hx => by have := cut_short 32 _ x hx; omega) _ ?_ ?_ (by simp; omega)
      · intro hy
        rw [w_i hin (by omega)]
        have hh := ih (i + 1) (by omega) (by rw [e1, List.all_append, ha]; simpa using hy)
        rw [e1, List.map_append] at hh
        exact hh
      · intro hno
        rw [if_neg]
        rw [Bool.not_eq_true, List.all_eq_false]
        refine ⟨ls[i], ?_, by simpa using hno⟩
        have : ls.take n = ls.take (i + 1) ++ (ls.take n).drop (i + 1) := by
          conv => lhs; rw [← List.take_append_drop (i + 1) (ls.take n), List.take_take, Nat.min_eq_left (by omega)]
        rw [this, e1]
        exact List.mem_append_left _ (List.mem_append_right _ (List.mem_singleton.2 rfl))
  exact key n 0 (by omega) (by simp)
/-! impl -/
theorem rdec (w : List UInt8) (hw : w.length ≤ 1048576) : ∃ x : Int × Bool, impl_readDecimal.f (Txt.B w) 0 20 = some x ∧ ((x.2 = true ∧ okP w = true ∧ x.1 = val w) ∨ (x.2 = false ∧ okP w = false)) := by
  obtain ⟨x, hx, h⟩ := readDec_t w 0 20 (by omega) (by omega)
  refine ⟨x, by unfold impl_readDecimal.f; rw [if_pos (by rw [Txt.B_size]; omega), hx], ?_⟩
  rcases h with ⟨h1, v, h2, h3, h4, h5⟩ | ⟨h1, h2⟩
  · exact Or.inl ⟨h1, by unfold okP; rw [h2]; exact decide_eq_true (by omega), by unfold val; rw [h2, h3]; rfl⟩
  · refine Or.inr ⟨h1, ?_⟩
    unfold okP
    cases e : num w with
    | none => rfl
    | some v => exact decide_eq_false (fun hh => h2 v e ⟨by omega, by omega⟩)
theorem i_words (s : Int) (ls : List ByteArray) (n t : Int) (out : List (List Int)) (ws : List (List UInt8)) (hw : ws.length ≤ 1048577) (hs : ∀ x ∈ ws, x.length ≤ 1048576) (r : List (List Int) × Int)
    (hyes : ws.all okP = true → Ev (fun k => impl_ReadMarks.l0 k s (out ++ [ws.map val]) ls n (wrap64 (t + 1))) r) (hno : ws.all okP = false → r = ([], 5)) (ho : out.length ≤ 1048577) :
    Ev (fun k => impl_ReadMarks.l1 k s out [] ls n t (ws.map Txt.B) ((ws.map Txt.B).length : Int) 0) r := by
  have key : ∀ d (i : Nat), i + d = ws.length → (ws.take i).all okP = true → Ev (fun k => impl_ReadMarks.l1 k s out ((ws.take i).map val) ls n t (ws.map Txt.B) ((ws.map Txt.B).length : Int) (i : Int)) r := by
    intro d
    induction d with
    | zero =>
      intro i hi ha
      refine Ev.step (fun k => impl_ReadMarks.l1.eq_2 _ _ _ _ _ _ _ _ _ k) ?_
      rw [List.take_of_length_le (by omega)] at ha ⊢
      refine ifn (by rw [List.length_map]; omega) (ifp (by omega) ?_)
      exact hyes ha
    | succ d ih =>
      intro i hi ha
      have hi1 : i < ws.length := by omega
      refine Ev.step (fun k => impl_ReadMarks.l1.eq_2 _ _ _ _ _ _ _ _ _ k) ?_
      refine ifp (by rw [List.length_map]; omega) (ifp (by omega) (ifp (by rw [List.length_map]; omega) ?_))
      obtain ⟨x, hx, h⟩ := rdec ws[i] (hs _ (List.getElem_mem hi1))
      rw [rd_B ws i hi1, w_i hi1 (by omega), hx]
      refine Ev.bind (Ev.now x) ?_
      rcases h with ⟨h1, h2, h3⟩ | ⟨h1, h2⟩
      · refine ifp h1 (ifp (by simp; omega) ?_)
        have hh := ih (i + 1) (by omega) (by
          rw [List.take_add_one, List.getElem?_eq_getElem hi1]
          simp only [List.all_append, ha, Bool.true_and, Option.toList_some, List.all_cons, List.all_nil, Bool.and_true]
          exact h2)
        rw [List.take_add_one, List.getElem?_eq_getElem hi1, Option.toList_some, List.map_append, List.map_cons, List.map_nil] at hh
        rw [h3]
        exact hh
      · refine ifn (by rw [h1]; simp) ?_
        rw [hno]
        · exact Ev.now _
        · rw [List.all_eq_false]
          exact ⟨_, List.getElem_mem hi1, by rw [h2]; simp⟩
  have := key ws.length 0 (by omega) (by simp)
  simpa using this
theorem i_lines (s : Int) (ls : List (List UInt8)) (hl : ls.length ≤ 1048577) (hs : ∀ x ∈ ls, x.length ≤ 1048575) : Ev (fun k => impl_ReadMarks.l0 k s [] (ls.map Txt.B) ((ls.map Txt.B).length : Int) 0) (if ls.all (fun x => (cut 32 x).all okP) = true then fin s (ls.map row) else ([], 5)) := by
  have key : ∀ d (i : Nat), i + d = ls.length → (ls.take i).all (fun x => (cut 32 x).all okP) = true → Ev (fun k => impl_ReadMarks.l0 k s ((ls.take i).map row) (ls.map Txt.B) ((ls.map Txt.B).length : Int) (i : Int)) (if ls.all (fun x => (cut 32 x).all okP) = true then fin s (ls.map row) else ([], 5)) := by
    intro d
    induction d with
    | zero =>
      intro i hi ha
      refine Ev.step (fun k => impl_ReadMarks.l0.eq_2 _ _ _ _ _ k) ?_
      rw [List.take_of_length_le (by omega)] at ha ⊢
      refine ifn (by rw [List.length_map]; omega) ?_
      rw [if_pos ha]
      unfold impl_ValidMarks.f fin
      refine Ev.bind (Ev.now _) ?_
      by_cases h : marksB s (ls.map row) = true
      · simp only [if_pos h]; exact Ev.now _
      · simp only [if_neg h]; exact Ev.now _
    | succ d ih =>
      intro i hi ha
      have hi1 : i < ls.length := by omega
      refine Ev.step (fun k => impl_ReadMarks.l0.eq_2 _ _ _ _ _ k) ?_
      refine ifp (by rw [List.length_map]; omega) (ifp (by omega) (ifp (by rw [List.length_map]; omega) ?_))
      rw [rd_B ls i hi1]
      have hl2 := hs _ (List.getElem_mem hi1)
      have e0 := split_t 32 ls[i] (by omega)
      rw [show (⟨#[32]⟩ : ByteArray) = Txt.B [32] from rfl, e0]
      refine Ev.bind (Ev.now _) ?_
      have e1 : ls.take (i + 1) = ls.take i ++ [ls[i]] := by rw [List.take_add_one, List.getElem?_eq_getElem hi1]; rfl
      refine i_words s (ls.map Txt.B) _ i _ (cut 32 ls[i]) (by have := cut_len 32 ls[i]; omega) (fun x hx => by have := cut_short 32 _ x hx; omega) _ ?_ ?_ (by simp; omega)
      · intro hy
        rw [w_i hi1 (by omega)]
        have hh := ih (i + 1) (by omega) (by rw [e1, List.all_append, ha]; simpa using hy)
        rw [e1, List.map_append] at hh
        exact hh
      · intro hno
        rw [if_neg]
        rw [Bool.not_eq_true, List.all_eq_false]
        exact ⟨ls[i], List.getElem_mem hi1, by simpa using hno⟩
  exact key ls.length 0 (by omega) (by simp)
/-! both -/
theorem okP_N {w : List UInt8} (h : okP w = true) : okN w = true := by
  unfold okP at h
  unfold okN
  cases e : num w with
  | none => rw [e] at h; cases h
  | some v => rfl
theorem okN_P {w : List UInt8} (h : okN w = true) (h2 : inB (val w) 0 20 = true) : okP w = true := by
  unfold okN at h
  unfold val at h2
  unfold okP
  cases e : num w with
  | none => rw [e] at h; cases h
  | some v =>
    rw [e] at h2
    have := inB_iff.1 h2
    have h5 := this.2
    simp at h5
    exact decide_eq_true (by omega)
/-- Marks that are read and hold, are read so by both. -/
theorem marks_P {s : Int} {ls : List (List UInt8)} (h : marksB s (ls.map row) = true) (hn : ls.all (fun x => (cut 32 x).all okN) = true) : ls.all (fun x => (cut 32 x).all okP) = true := by
  unfold marksB at h
  simp only [Bool.and_eq_true, List.all_eq_true] at h hn ⊢
  intro x hx w hw
  have h1 := h.2.2 (row x) (List.mem_map_of_mem hx)
  unfold rowB at h1
  simp only [Bool.and_eq_true, allB, List.all_eq_true] at h1
  exact okN_P (hn x hx w hw) (h1.2 (val w) (List.mem_map_of_mem hw))
theorem all_NP {ls : List (List UInt8)} (h : ls.all (fun x => (cut 32 x).all okP) = true) : ls.all (fun x => (cut 32 x).all okN) = true := by
  simp only [List.all_eq_true] at h ⊢
  exact fun x hx w hw => okP_N (h x hx w hw)
theorem one_fin (s : Int) (ls : List (List UInt8)) : (if ls.all (fun x => (cut 32 x).all okN) = true then fin s (ls.map row) else ([], 5)) = (if ls.all (fun x => (cut 32 x).all okP) = true then fin s (ls.map row) else ([], 5)) := by
  by_cases hp : ls.all (fun x => (cut 32 x).all okP) = true
  · rw [if_pos hp, if_pos (all_NP hp)]
  · rw [if_neg hp]
    by_cases hn : ls.all (fun x => (cut 32 x).all okN) = true
    · rw [if_pos hn]
      unfold fin
      rw [if_neg fun h => hp (marks_P h hn)]
    · rw [if_neg hn]
theorem fin_short (s : Int) (x : List (List Int)) : (fin s x).1.length ≤ 16 ∧ ∀ y ∈ (fin s x).1, (y.length : Int) ≤ 1048576 := by
  unfold fin
  by_cases h : marksB s x = true
  · rw [if_pos h]
    unfold marksB at h
    simp only [Bool.and_eq_true, decide_eq_true_eq, List.all_eq_true] at h
    refine ⟨by simp only; omega, fun y hy => ?_⟩
    have h1 := h.2.2 y hy
    unfold rowB at h1
    simp only [Bool.and_eq_true, decide_eq_true_eq] at h1
    have := inB_iff.1 h.1
    omega
  · rw [if_neg h]
    simp
theorem are_t (a : Int) : impl_areSamples.f a = some (inB a 1 8) := by
  unfold impl_areSamples.f impl_within.f inB
  by_cases h : 1 ≤ a <;> simp [h]
theorem suffix_t (l : List UInt8) (hl : l.length ≤ 1048576) : strings_CutSuffix.f (Txt.B l) (⟨#[10]⟩ : ByteArray) = some (Txt.B (Lib.trimSuffix l [10]), Lib.hasSuffix l [10]) := by
  unfold strings_CutSuffix.f
  rw [if_pos (by rw [Txt.B_size]; omega), Txt.B_toList]
  rfl
theorem same (s : Int) (l : List UInt8) (hl : l.length ≤ 1048576) : ∃ r : List (List Int) × Int, r.1.length ≤ 16 ∧ (∀ x ∈ r.1, (x.length : Int) ≤ 1048576) ∧ Ev (fun k => spec_ReadMarks.f k s (Txt.B l)) r ∧ Ev (fun k => impl_ReadMarks.f k s (Txt.B l)) r := by
  have hz : (Txt.B l).toList = l := by rw [Lib.toList_data, Txt.B_toList]
  have hz2 : ∀ x : List UInt8, (Txt.B x).toList = x := fun x => by rw [Lib.toList_data, Txt.B_toList]
  have hlen := cut_len 10 l
  have hne := cut_ne 10 l
  have hpos : 0 < (cut 10 l).length := List.length_pos_iff.2 hne
  obtain ⟨n, hn⟩ : ∃ n, n + 1 = (cut 10 l).length := ⟨(cut 10 l).length - 1, by omega⟩
  have ew : wrap64 ((((cut 10 l).map Txt.B).length : Int) - 1) = (n : Int) := by
    rw [List.length_map, w_id (by omega) (by omega)]
    omega
  have hlast : (cut 10 l).getLast? = some ((cut 10 l)[n]'(by omega)) := by
    rw [List.getLast?_eq_getElem?, List.getElem?_eq_getElem (by omega)]
    congr 2
    omega
  -- the spec, by its last piece
  have hspec : ∀ r, ((cut 10 l)[n]'(by omega) = [] → Ev (fun k => spec_ReadMarks.j0 k s ((cut 10 l).map Txt.B) (n : Int) (decide ((n : Int) > 12))) r) → ((cut 10 l)[n]'(by omega) ≠ [] → r = ([], 5)) → Ev (fun k => spec_ReadMarks.f k s (Txt.B l)) r := by
    intro r h1 h2
    unfold spec_ReadMarks.f
    refine Ev.bind (lsplit_t 10 l hl) ?_
    rw [ew]
    refine ifp (by omega) (ifp (by rw [List.length_map]; omega) ?_)
    rw [rd_B (cut 10 l) n (by omega), hz2]
    by_cases c : (cut 10 l)[n]'(by omega) = []
    · exact ifp c (h1 c)
    · rw [h2 c]
      refine ifn c ?_
      refine Ev.step (fun k => spec_ReadMarks.j0.eq_2 _ _ _ _ k) ?_
      exact ifp rfl (Ev.now _)
  have bad : (([], 5) : List (List Int) × Int).1.length ≤ 16 ∧ (∀ x ∈ (([], 5) : List (List Int) × Int).1, (x.length : Int) ≤ 1048576) := by simp
  by_cases c0 : l = []
  · subst c0
    have e0 : n = 0 := by simp [cut] at hn; omega
    subst e0
    refine ⟨fin s [], (fin_short s []).1, (fin_short s []).2, hspec _ (fun _ => ?_) (fun h => absurd rfl h), ?_⟩
    · refine Ev.step (fun k => spec_ReadMarks.j0.eq_2 _ _ _ _ k) ?_
      refine ifn (by simp) ?_
      refine Ev.step (fun k => spec_ReadMarks.l0.eq_2 _ _ _ _ _ k) ?_
      exact ifn (by simp) (fin_ev s [] (by simp) (by simp))
    · unfold impl_ReadMarks.f
      refine Ev.bind (Ev.now _) ?_
      rw [are_t]
      refine Ev.bind (Ev.now _) ?_
      unfold fin marksB
      by_cases h : inB s 1 8 = true
      · rw [if_pos (by rw [h]; rfl)]
        exact ifp h (ifp (by rw [hz]) (Ev.now _))
      · rw [if_neg (fun hh => h (by simp only [Bool.and_eq_true] at hh; exact hh.1))]
        exact ifn h (Ev.now _)
  · -- impl, by its samples and the text's end
    have himpl : ∀ r, (inB s 1 8 = true → Lib.hasSuffix l [10] = true → Ev (fun k => impl_ReadMarks.l0 k s [] ((cut 10 (Lib.trimSuffix l [10])).map Txt.B) ((((cut 10 (Lib.trimSuffix l [10])).map Txt.B).length : Int)) 0) r) → (inB s 1 8 = false ∨ Lib.hasSuffix l [10] = false → r = ([], 5)) → Ev (fun k => impl_ReadMarks.f k s (Txt.B l)) r := by
      intro r h1 h2
      unfold impl_ReadMarks.f
      refine Ev.bind (Ev.now _) ?_
      rw [are_t]
      refine Ev.bind (Ev.now _) ?_
      by_cases h : inB s 1 8 = true
      · refine ifp h (ifn (by rw [hz]; exact c0) ?_)
        rw [suffix_t l hl]
        refine Ev.bind (Ev.now _) ?_
        by_cases g : Lib.hasSuffix l [10] = true
        · refine ifp g ?_
          have hle : (Lib.trimSuffix l [10]).length ≤ 1048576 := by
            unfold Lib.trimSuffix
            rw [if_pos g]
            simp; omega
          have e0 := split_t 10 (Lib.trimSuffix l [10]) hle
          simp only
          rw [show (⟨#[10]⟩ : ByteArray) = Txt.B [10] from rfl, e0]
          refine Ev.bind (Ev.now _) ?_
          exact h1 h g
        · rw [h2 (Or.inr (Bool.eq_false_iff.2 g))]
          exact ifn g (Ev.now _)
      · rw [h2 (Or.inl (Bool.eq_false_iff.2 h))]
        exact ifn h (Ev.now _)
    by_cases g : Lib.hasSuffix l [10] = true
    · obtain ⟨b, hb⟩ : ∃ b, b ++ [10] = l := List.isSuffixOf_iff_suffix.1 g
      subst hb
      have et : Lib.trimSuffix (b ++ [10]) [10] = b := by
        unfold Lib.trimSuffix
        rw [if_pos g]
        simp
      rw [et] at himpl
      have ec := cut_end 10 b
      have hbl : b.length ≤ 1048575 := by simp at hl; omega
      have hn2 : n = (cut 10 b).length := by
        rw [ec] at hn
        simp at hn
        exact hn
      have hl0 : (cut 10 (b ++ [10]))[n]'(by omega) = [] := by
        simp only [ec, hn2]
        simp
      have hcl := cut_len 10 b
      have hrow : ∀ x ∈ cut 10 b, x.length ≤ 1048575 := fun x hx => by have := cut_short 10 b x hx; omega
      have et2 : (cut 10 (b ++ [10])).take n = cut 10 b := by rw [ec, hn2]; simp
      have hi : inB s 1 8 = false → (if (cut 10 b).all (fun x => (cut 32 x).all okP) = true then fin s ((cut 10 b).map row) else ([], 5)) = ([], 5) := by
        intro h
        by_cases hp : (cut 10 b).all (fun x => (cut 32 x).all okP) = true
        · rw [if_pos hp]
          unfold fin marksB
          rw [h]
          rfl
        · rw [if_neg hp]
      have hshort : (if (cut 10 b).all (fun x => (cut 32 x).all okP) = true then fin s ((cut 10 b).map row) else ([], 5)).1.length ≤ 16 ∧ ∀ y ∈ (if (cut 10 b).all (fun x => (cut 32 x).all okP) = true then fin s ((cut 10 b).map row) else ([], 5)).1, (y.length : Int) ≤ 1048576 := by
        split
        · exact fin_short s _
        · exact bad
      refine ⟨_, hshort.1, hshort.2, hspec _ (fun _ => ?_) (fun h => absurd hl0 h), himpl _ (fun _ _ => i_lines s (cut 10 b) (by omega) hrow) (fun h => ?_)⟩
      · refine Ev.step (fun k => spec_ReadMarks.j0.eq_2 _ _ _ _ k) ?_
        by_cases h12 : n ≤ 12
        · refine ifn (by simp; omega) ?_
          rw [← one_fin]
          have := s_lines s (cut 10 (b ++ [10])) n hn h12 (fun x hx => by
            rw [ec] at hx
            rcases List.mem_append.1 hx with hx | hx
            · exact hrow x hx
            · rw [List.mem_singleton.1 hx]; simp)
          rw [et2] at this
          exact this
        · have e5 : (if (cut 10 b).all (fun x => (cut 32 x).all okP) = true then fin s ((cut 10 b).map row) else ([], 5)) = ([], 5) := by
            by_cases hp : (cut 10 b).all (fun x => (cut 32 x).all okP) = true
            · rw [if_pos hp]
              unfold fin
              rw [if_neg]
              intro hm
              unfold marksB at hm
              simp only [Bool.and_eq_true, decide_eq_true_eq] at hm
              have := hm.2.1
              simp at this
              omega
            · rw [if_neg hp]
          rw [e5]
          exact ifp (by simp; omega) (Ev.now _)
      · rcases h with h | h
        · exact hi h
        · rw [g] at h; cases h
    · refine ⟨([], 5), bad.1, bad.2, hspec _ (fun h => ?_) (fun _ => rfl), himpl _ (fun _ h => absurd h g) (fun _ => rfl)⟩
      rw [h] at hlast
      rcases cut_last 10 l hlast with e | ⟨a, e⟩
      · exact absurd e c0
      · exfalso
        apply g
        exact List.isSuffixOf_iff_suffix.2 ⟨a, e.symm⟩
end LwReadMarks
def laws_FnExactReadMarks.f (a0 : Int) (a1 : ByteArray) : Option Bool := if a1.size ≤ 140737488355328 then some true else none
set_option maxHeartbeats 8000000 in
set_option maxRecDepth 100000 in
theorem laws_FnExactReadMarks.calls (a0 : Int) (a1 : ByteArray) (r : Bool) (w : World) (h : laws_FnExactReadMarks.f a0 a1 = some r) (hL : Lr w) : Calls Tryd.prog 6 #[.int .i64 a0, .string a1] w fun e w' => e = .returned (.bool r) ∧ Below w.heap.size w w' := by
  unfold laws_FnExactReadMarks.f at h
  by_cases hlim : a1.size ≤ 140737488355328
  case neg => rw [if_neg hlim] at h; cases h
  rw [if_pos hlim] at h
  obtain rfl := Option.some.inj h
  clear h
  by_cases hc : 1048576 < a1.size
  · have hd : decide ((a1.size : Int) > 1048576) = true := decide_eq_true (by omega)
    have hd2 : decide ((1048576 : Int) < (a1.size : Int)) = true := decide_eq_true (by omega)
    clear hlim hL
    go_enter Tryd.func6, Tryd.ntmps6
    go_wp2
    go_ret
    exact ⟨rfl, Below.refl _ _⟩
  have hd : decide ((a1.size : Int) > 1048576) = false := decide_eq_false (by omega)
  have hd2 : decide ((1048576 : Int) < (a1.size : Int)) = false := decide_eq_false (by omega)
  obtain ⟨⟨g, y⟩, hg8, hg9, hsp, him⟩ := LwReadMarks.same a0 a1.data.toList (by have := Lib.size_eq a1; omega)
  rw [show Txt.B a1.data.toList = a1 from Txt.B_self a1] at hsp him
  clear hc hlim
  have HL := Aside0.mk hL
  clear hL
  simp only at hg8 hg9
  obtain ⟨ks, hs⟩ := hsp.rounds
  obtain ⟨ki, hi⟩ := him.rounds
  obtain ⟨ke, he⟩ := (eqMarks_tells g (by omega) hg9).rounds
  obtain ⟨kh, hhd⟩ := (MkMarks.held_tells g 1 (by omega) hg9 (by omega) (by omega)).rounds
  have hmb2 := MkMarks.bound g 1 (by omega) hg9 g.length (Nat.le_refl _)
  have hmi := fun (P : Nat → Prop) (u : Value) W (hB : Below w.heap.size w W) (hR : Kd.S (Kd.slice 2 (Kd.int .i64)) 76 W w.heap.size P u g) => MkMarks.calls P u g 1 w W hB hR (by omega) hg9 (by omega) (by omega)
  have hgl : (MkMarks.marked g 1).2.length = g.length := MkMarks.len g 1 g.length
  have hq2 : 0 ≤ (MkMarks.marked g 1).1 := hmb2.1
  obtain ⟨gm, hgm⟩ : ∃ gm, gm = (MkMarks.marked g 1).2 := ⟨_, rfl⟩
  obtain ⟨qg, hqg⟩ : ∃ qg, qg = (MkMarks.marked g 1).1 := ⟨_, rfl⟩
  rw [← hgm] at hgl
  rw [← hqg] at hq2
  rw [← hgm, ← hqg] at hhd
  simp only [← hgm, ← hqg] at hmi
  have Hmi := Lib.hid hmi
  clear hmi hgm hmb2
  have Hsp := Lib.hid fun W => spec_ReadMarks.calls ks a0 a1 g y W hs
  have Him := Lib.hid fun W (hb_ : Below w.heap.size w W) => impl_ReadMarks.calls ki a0 a1 g y W hi (Lr.on HL.out hb_)
  have Heq := Lib.hid fun A c B d W (hC : Kd.C (Kd.slice 2 (Kd.int .i64)) W A g.length g) hc (hD : Kd.C (Kd.slice 2 (Kd.int .i64)) W B g.length g) hd => laws_eqMarks.calls ke A c g B d g true W hC hc hD hd he
  have hcg : decide (qg < 0) = false := decide_eq_false (by omega)
  have Hhd := Lib.hid fun A c W (hC : Kd.C (Kd.slice 2 (Kd.int .i64)) W A gm.length gm) hc => laws_heldMarks.calls kh A c gm 1 qg W hC hc hhd
  have Hhd1 := Lib.hid fun (A : Option Addr) (c : Nat) (W : World) (hh : g.length = gm.length ∧ g.length ≤ c ∧ Kd.C (Kd.slice 2 (Kd.int .i64)) W A gm.length gm) => by
    have := Hhd.out A c W hh.2.2 (by rw [hgl]; exact hh.2.1)
    rwa [hgl] at this
  clear hqg hs hi he hhd hsp him hg9
  have B := Aside0.mk (Below.refl w.heap.size w)
  go_enter Tryd.func6, Tryd.ntmps6
  go_wp2_with (fail "a call")
  refine (Hsp.out _).mono ?_; rintro e w1 ⟨v1, rfl, h1, b1⟩
  obtain ⟨A1, c1, rfl⟩ := Kd.S_slice h1
  have R0 := Aside0.mk (Kd.S_mono (ok' := fun k_ => k_ < w1.heap.size) (Kd.S_bound h1) (fun k_ hk_ => hk_.2.2.1)); clear h1
  have s1 := b1.size
  have n_ := Aside0.mk (below_then B.out B.out.size b1); clear B; have B := n_; clear n_
  clear b1
  go_wp2_with (fail "a call")
  refine (Him.out _ B.out).mono ?_; rintro e w2 ⟨v2, rfl, h2, b2⟩
  obtain ⟨A2, c2, rfl⟩ := Kd.S_slice h2
  have n_ := Aside0.mk (Kd.S_step R0.out (fun k_ _ hlt_ => b2.block k_ hlt_)); clear R0; have R0 := n_; clear n_
  have G := Aside0.mk (Kd.S_mono (ok' := fun k_ => w1.heap.size ≤ k_) (Kd.S_bound h2) (fun k_ hk_ => hk_.2.1)); clear h2
  have s2 := b2.size
  have n_ := Aside0.mk (below_then B.out B.out.size b2); clear B; have B := n_; clear n_
  clear b2
  go_wp2_with (fail "a call")
  refine (Heq.out _ _ _ _ _ (Kd.S_reads' G.out).2.2 (Kd.S_reads' G.out).2.1 (Kd.S_reads' R0.out).2.2 (Kd.S_reads' R0.out).2.1).mono ?_; rintro e w3 ⟨rfl, hd_⟩; have b3 := LwLib.db hd_; clear hd_
  have n_ := Aside0.mk (Kd.S_step R0.out (fun k_ _ hlt_ => b3.block k_ hlt_)); clear R0; have R0 := n_; clear n_
  have n_ := Aside0.mk (Kd.S_step G.out (fun k_ _ hlt_ => b3.block k_ hlt_)); clear G; have G := n_; clear n_
  have n_ := Aside0.mk (below_then B.out B.out.size b3); clear B; have B := n_; clear n_
  clear b3
  go_wp2_with (fail "a call")
  have l4 : w.heap.size ≤ w1.heap.size := by omega
  refine (Hmi.out _ _ _ B.out (Kd.S_lower G.out l4)).mono ?_; rintro e w4 ⟨rfl, h_, b_, K4⟩
  have n_ := Aside0.mk (Kd.S_kept R0.out K4 (fun k_ hk_ hs_ => by omega)); clear R0; have R0 := n_; clear n_
  clear G; have G := Aside0.mk h_; clear h_
  clear K4; have n_ := Aside0.mk b_; clear B b_; have B := n_; clear n_
  go_wp2_with (fail "a call")
  refine (Hhd1.out _ _ _ (Kd.S_reads' G.out)).mono ?_; rintro e w5 ⟨rfl, hd_⟩; have b5 := LwLib.db hd_; clear hd_
  have n_ := Aside0.mk (Kd.S_step R0.out (fun k_ _ hlt_ => b5.block k_ hlt_)); clear R0; have R0 := n_; clear n_
  have n_ := Aside0.mk (Kd.S_step G.out (fun k_ _ hlt_ => b5.block k_ hlt_)); clear G; have G := n_; clear n_
  have n_ := Aside0.mk (below_then B.out B.out.size b5); clear B; have B := n_; clear n_
  clear b5
  go_wp2_with (fail "a call")
  refine (Him.out _ B.out).mono ?_; rintro e w6 ⟨v6, rfl, h6, b6⟩
  obtain ⟨A6, c6, rfl⟩ := Kd.S_slice h6
  have n_ := Aside0.mk (Kd.S_step R0.out (fun k_ _ hlt_ => b6.block k_ hlt_)); clear R0; have R0 := n_; clear n_
  have n_ := Aside0.mk (Kd.S_step G.out (fun k_ _ hlt_ => b6.block k_ hlt_)); clear G; have G := n_; clear n_
  have H := Aside0.mk (Kd.S_mono (ok' := fun k_ => True) (Kd.S_bound h6) (fun k_ hk_ => trivial)); clear h6
  have s6 := b6.size
  have n_ := Aside0.mk (below_then B.out B.out.size b6); clear B; have B := n_; clear n_
  clear b6
  go_wp2_with (fail "a call")
  refine (Heq.out _ _ _ _ _ (Kd.S_reads' H.out).2.2 (Kd.S_reads' H.out).2.1 (Kd.S_reads' R0.out).2.2 (Kd.S_reads' R0.out).2.1).mono ?_; rintro e w7 ⟨rfl, hd_⟩; have b7 := LwLib.db hd_; clear hd_
  have n_ := Aside0.mk (Kd.S_step R0.out (fun k_ _ hlt_ => b7.block k_ hlt_)); clear R0; have R0 := n_; clear n_
  have n_ := Aside0.mk (Kd.S_step G.out (fun k_ _ hlt_ => b7.block k_ hlt_)); clear G; have G := n_; clear n_
  have n_ := Aside0.mk (Kd.S_step H.out (fun k_ _ hlt_ => b7.block k_ hlt_)); clear H; have H := n_; clear n_
  have n_ := Aside0.mk (below_then B.out B.out.size b7); clear B; have B := n_; clear n_
  clear b7
  go_wp2_with (fail "a call")
  clear H
  refine (Hhd1.out _ _ _ (Kd.S_reads' G.out)).mono ?_; rintro e w8 ⟨rfl, hd_⟩; have b8 := LwLib.db hd_; clear hd_
  have n_ := Aside0.mk (Kd.S_step R0.out (fun k_ _ hlt_ => b8.block k_ hlt_)); clear R0; have R0 := n_; clear n_
  have n_ := Aside0.mk (Kd.S_step G.out (fun k_ _ hlt_ => b8.block k_ hlt_)); clear G; have G := n_; clear n_
  have n_ := Aside0.mk (below_then B.out B.out.size b8); clear B; have B := n_; clear n_
  clear b8
  go_wp2_with (fail "a call")
  go_ret
  exact ⟨rfl, B.out⟩
end Go.Proofs.YthkifkfnlmjafaaDoor.G
