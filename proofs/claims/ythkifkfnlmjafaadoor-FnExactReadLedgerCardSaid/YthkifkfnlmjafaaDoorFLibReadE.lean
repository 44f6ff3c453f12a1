/- A line that tells an entry: the reference's reading is the program's. -/
import Derived.Test.YthkifkfnlmjafaaDoorFLibRead
import Derived.Test.YthkifkfnlmjafaaDoorFLibEntry
import Derived.Test.YthkifkfnlmjafaaDoorFEntry
import Derived.Test.YthkifkfnlmjafaaDoorG2
import Derived.Test.YthkifkfnlmjafaaDoorG4
import Derived.Test.YthkifkfnlmjafaaDoorG5
import Derived.Test.YthkifkfnlmjafaaDoorG6
import Derived.Test.YthkifkfnlmjafaaDoorG3
namespace Go.Proofs.YthkifkfnlmjafaaDoor.G
open Go.RowKit Go.Proofs.YthkifkfnlmjafaaDoorW.PrintWords Go.Proofs.YthkifkfnlmjafaaDoorW.PrintLast Go.Proofs.YthkifkfnlmjafaaDoorW.PrintMore
attribute [local go_sem] max2_int min2_int max_two min_two max_three min_three max_four min_four   -- for this text's walks alone
set_option linter.unusedVariables false
set_option linter.unusedSimpArgs false

open Go.Proofs.YthkifkfnlmjafaaDoor.Wk Go.Proofs.YthkifkfnlmjafaaDoor.Pl
namespace Txr
abbrev En := S61
theorem rd_B (ws : List (List UInt8)) (i : Nat) (h : i < ws.length) : rdOf ByteArray.empty (ws.map Txt.B) (i : Int) = Txt.B ws[i] := by
  unfold rdOf
  rw [show (i : Int).toNat = i by omega, List.getD_eq_getElem?_getD, List.getElem?_map, List.getElem?_eq_getElem h]
  rfl
theorem B_list (x : List UInt8) : (Txt.B x).toList = x := by rw [Lib.toList_data, Txt.B_toList]
def Wd : List (List UInt8) := [[102, 117, 108, 108], [101, 109, 112, 116, 121], [99, 114, 97, 116, 101], [100, 114, 105, 110, 107], [98, 114, 101, 97, 107]]
def lastI (w : List UInt8) : Nat → Int
  | 0 => -1
  | i + 1 => if Wd.getD i [] = w then (i : Int) else lastI w i
def what (w : List UInt8) : Int := lastI w 5
def rdE (lo : Nat) (x : List UInt8) : Option En :=
  match cut 32 x with
  | [w0, w1, w2, w3] => match cut 62 w1 with
    | [p0, p1] => match num w0, num p0, num p1, num w3 with
      | some d, some f, some t, some n => if 0 ≤ what w2 ∧ d ≤ 10000 ∧ f ≤ 5 ∧ t ≤ 5 ∧ lo ≤ n ∧ n ≤ 1000 then some ⟨IntKind.i16.wrap (d : Int), IntKind.i8.wrap (f : Int), IntKind.i8.wrap (t : Int), what w2 % 256, IntKind.i16.wrap (n : Int)⟩ else none
      | _, _, _, _ => none
    | _ => none
  | _ => none
def tup : Option En → Int × Int × Int × Int × Int × Bool
  | some e => (e.f0, e.f1, e.f2, e.f3, e.f4, true)
  | none => (0, 0, 0, 0, 0, false)
theorem tup_no {c : Prop} [Decidable c] (h : ¬ c) (e : En) : tup (if c then some e else none) = (0, 0, 0, 0, 0, false) := by rw [if_neg h]; rfl
theorem tup_yes {c : Prop} [Decidable c] (h : c) (e : En) : tup (if c then some e else none) = tup (some e) := by rw [if_pos h]
theorem rdE_len {lo : Nat} {x : List UInt8} (h : (cut 32 x).length ≠ 4) : rdE lo x = none := by
  unfold rdE
  generalize cut 32 x = ws at h
  match ws, h with
  | [], _ => rfl
  | [_], _ => rfl
  | [_, _], _ => rfl
  | [_, _, _], _ => rfl
  | [_, _, _, _], h => exact absurd rfl h
  | _ :: _ :: _ :: _ :: _ :: _, _ => rfl
theorem rdE_part {lo : Nat} {x w0 w1 w2 w3 : List UInt8} (e : cut 32 x = [w0, w1, w2, w3]) (h : (cut 62 w1).length ≠ 2) : rdE lo x = none := by
  unfold rdE
  rw [e]
  simp only
  generalize cut 62 w1 = ws at h
  match ws, h with
  | [], _ => rfl
  | [_], _ => rfl
  | [_, _], h => exact absurd rfl h
  | _ :: _ :: _ :: _, _ => rfl
theorem four {α : Type} {l : List α} (h : l.length = 4) : ∃ a b c d, l = [a, b, c, d] := by
  match l, h with
  | [a, b, c, d], _ => exact ⟨a, b, c, d, rfl⟩
theorem two {α : Type} {l : List α} (h : l.length = 2) : ∃ a b, l = [a, b] := by
  match l, h with
  | [a, b], _ => exact ⟨a, b, rfl⟩
theorem words_B : spec_l06Words.f = some (Wd.map Txt.B) := rfl
theorem whats_B : impl_whats.f = some (Wd.map Txt.B) := rfl
theorem lastI_hi (w : List UInt8) : ∀ i : Nat, lastI w i < i ∧ -1 ≤ lastI w i
  | 0 => by unfold lastI; omega
  | i + 1 => by
    have := lastI_hi w i
    unfold lastI
    split <;> omega
set_option maxHeartbeats 1600000 in
theorem s_read (x : List UInt8) (hx : x.length ≤ 1048575) : Ev (fun k => spec_l06Read.f k (Txt.B x)) (tup (rdE 0 x)) := by
  unfold spec_l06Read.f
  refine Ev.bind (lsplit_t 32 x (by omega)) ?_
  have hs := cut_short 32 x
  by_cases h4 : (cut 32 x).length = 4
  case neg =>
    rw [rdE_len h4]
    exact ifn (by rw [List.length_map]; omega) (Ev.now _)
  obtain ⟨w0, w1, w2, w3, e⟩ := four h4
  rw [e] at hs ⊢
  have s0 := hs w0 (by simp)
  have s1 := hs w1 (by simp)
  have s2 := hs w2 (by simp)
  have s3 := hs w3 (by simp)
  refine ifp rfl (ifp (by first | decide | simp) ?_)
  refine Ev.bind (lsplit_t 62 w1 (by omega)) ?_
  have hp := cut_short 62 w1
  by_cases h2 : (cut 62 w1).length = 2
  case neg =>
    rw [rdE_part e h2]
    exact ifn (by rw [List.length_map]; omega) (Ev.now _)
  obtain ⟨p0, p1, e2⟩ := two h2
  rw [e2] at hp ⊢
  have t0 := hp p0 (by simp)
  have t1 := hp p1 (by simp)
  refine ifp rfl ?_
  have key : ∀ d (i : Nat), i + d = 5 → Ev (fun k => spec_l06Read.l0 k ([w0, w1, w2, w3].map Txt.B) ([p0, p1].map Txt.B) (lastI w2 i) (i : Int)) (tup (rdE 0 x)) := by
    intro d
    induction d with
    | zero =>
      intro i hi
      obtain rfl : i = 5 := by omega
      refine Ev.step (fun k => spec_l06Read.l0.eq_2 _ _ _ _ k) ?_
      have hb := lastI_hi w2 5
      refine ifn (by decide) (ifp (by first | decide | simp) ?_)
      refine Ev.bind (number_t w0 (by omega)) (ifp (by first | decide | simp) ?_)
      refine Ev.bind (number_t p0 (by omega)) (ifp (by first | decide | simp) ?_)
      refine Ev.bind (number_t p1 (by omega)) (ifp (by first | decide | simp) ?_)
      refine Ev.bind (number_t w3 (by omega)) ?_
      unfold rdE numR
      rw [e]
      simp only [e2]
      unfold what
      by_cases c0 : lastI w2 5 < 0
      · refine ifp c0 ?_
        have : tup (match num w0, num p0, num p1, num w3 with
          | some d, some f, some t, some n => if 0 ≤ lastI w2 5 ∧ d ≤ 10000 ∧ f ≤ 5 ∧ t ≤ 5 ∧ 0 ≤ n ∧ n ≤ 1000 then some (⟨IntKind.i16.wrap (d : Int), IntKind.i8.wrap (f : Int), IntKind.i8.wrap (t : Int), lastI w2 5 % 256, IntKind.i16.wrap (n : Int)⟩ : En) else none
          | _, _, _, _ => none) = (0, 0, 0, 0, 0, false) := by
          split
          · rw [if_neg (by omega)]; rfl
          · rfl
        rw [this]
        exact Ev.now _
      refine ifn c0 ?_
      cases num w0 with
      | none => exact ifn (by simp) (Ev.now _)
      | some d =>
        refine ifp rfl ?_
        cases num p0 with
        | none => exact ifn (by simp) (Ev.now _)
        | some f =>
          refine ifp rfl ?_
          cases num p1 with
          | none => exact ifn (by simp) (Ev.now _)
          | some t =>
            refine ifp rfl ?_
            cases num w3 with
            | none => exact ifn (by simp) (Ev.now _)
            | some n =>
              refine ifp rfl ?_
              simp only
              by_cases d1 : d ≤ 10000
              case neg => rw [tup_no (by omega)]; exact ifp (by omega) (Ev.now _)
              refine ifn (by omega) ?_
              by_cases d2 : f ≤ 5
              case neg => rw [tup_no (by omega)]; exact ifp (by omega) (Ev.now _)
              refine ifn (by omega) ?_
              by_cases d3 : t ≤ 5
              case neg => rw [tup_no (by omega)]; exact ifp (by omega) (Ev.now _)
              refine ifn (by omega) ?_
              by_cases d4 : n ≤ 1000
              case neg => rw [tup_no (by omega)]; exact ifp (by omega) (Ev.now _)
              refine ifn (by omega) ?_
              rw [tup_yes (by omega)]
              exact Ev.now _
    | succ d ih =>
      intro i hi
      have hi1 : i < Wd.length := by show i < 5; omega
      refine Ev.step (fun k => spec_l06Read.l0.eq_2 _ _ _ _ k) ?_
      refine ifp (by omega) ?_
      rw [words_B]
      refine Ev.bind (Ev.now _) (ifp (by omega) (ifp (by rw [List.length_map]; omega) (ifp (by first | decide | simp) ?_)))
      have ih := ih (i + 1) (by omega)
      rw [rd_B Wd i hi1, B_list, w_i hi1 (by decide)]
      have e9 : (rdOf ByteArray.empty ([w0, w1, w2, w3].map Txt.B) 2).toList = w2 := by
        show (Txt.B w2).toList = w2
        exact B_list w2
      rw [e9]
      unfold lastI at ih
      rw [List.getD_eq_getElem?_getD, List.getElem?_eq_getElem hi1, Option.getD_some] at ih
      by_cases c : Wd[i] = w2
      · rw [if_pos c] at ih
        exact ifp c ih
      · rw [if_neg c] at ih
        exact ifn c ih
  exact key 5 0 rfl
/-! impl -/
theorem num_bad {l : List UInt8} {b : UInt8} (h : b ∈ l) (hb : ¬ (48 ≤ b.toNat ∧ b.toNat ≤ 57)) : num l = none := by
  cases e : num l with
  | none => rfl
  | some v =>
    exfalso
    obtain ⟨_, _, _, _, h5⟩ := num_says e
    obtain ⟨k, hk, hk2⟩ := List.getElem_of_mem h
    obtain ⟨d, hd⟩ := Lib.digit_of_decFrom l 0 v h5 k b (by rw [List.getElem?_eq_getElem hk, hk2])
    have := digit_says hd
    omega
theorem rdec_t (w : List UInt8) (hw : w.length ≤ 1048576) (lo hi : Nat) (h1 : hi < 1000000000) : ∃ x : Int × Bool, impl_readDecimal.f (Txt.B w) (lo : Int) (hi : Int) = some x ∧ ((x.2 = true ∧ ∃ v : Nat, num w = some v ∧ x.1 = v ∧ lo ≤ v ∧ v ≤ hi) ∨ (x.2 = false ∧ ∀ v : Nat, num w = some v → ¬ (lo ≤ v ∧ v ≤ hi))) := by
  obtain ⟨x, hx, h⟩ := readDec_t w (lo : Int) (hi : Int) (by omega) (by omega)
  refine ⟨x, by unfold impl_readDecimal.f; rw [if_pos (by rw [Txt.B_size]; omega), hx], ?_⟩
  rcases h with ⟨h1, v, h2, h3, h4, h5⟩ | ⟨h1, h2⟩
  · exact Or.inl ⟨h1, v, h2, h3, by omega, by omega⟩
  · exact Or.inr ⟨h1, fun v hv hh => h2 v hv ⟨by omega, by omega⟩⟩
theorem cut_t (w : List UInt8) (hw : w.length ≤ 1048576) : ∃ a r fd, strings_Cut.f (Txt.B w) (⟨#[62]⟩ : ByteArray) = some (Txt.B a, Txt.B r, fd) ∧ a.length ≤ 1048576 ∧ r.length ≤ 1048576 ∧
    ((fd = true ∧ (cut 62 w = [a, r] ∨ ((cut 62 w).length ≠ 2 ∧ num r = none))) ∨ (fd = false ∧ (cut 62 w).length ≠ 2)) := by
  unfold strings_Cut.f
  rw [if_pos (by rw [Txt.B_size]; omega), Txt.B_toList, show (⟨#[62]⟩ : ByteArray).data.toList = [62] from rfl]
  unfold Lib.cut
  rw [Lib.index_one]
  by_cases hc : (62 : UInt8) ∈ w
  · obtain ⟨a, r, rfl, ha⟩ := split_mem hc
    rw [index_hit ha, if_pos (by omega)]
    have e1 : (a ++ 62 :: r).take (a.length : Int).toNat = a := by simp
    have e2 : (a ++ 62 :: r).drop ((a.length : Int).toNat + [(62 : UInt8)].length) = r := by
      rw [show (a.length : Int).toNat + [(62 : UInt8)].length = a.length + 1 by simp, show a ++ 62 :: r = (a ++ [62]) ++ r by simp]
      rw [List.drop_append_of_le_length (by simp), List.drop_of_length_le (by simp)]
      rfl
    rw [e1, e2]
    refine ⟨a, r, true, rfl, by simp at hw; omega, by simp at hw; omega, Or.inl ⟨rfl, ?_⟩⟩
    rw [cut_hit 62 r a ha]
    by_cases hr : (62 : UInt8) ∈ r
    · refine Or.inr ⟨?_, num_bad hr (by decide)⟩
      obtain ⟨a2, r2, rfl, ha2⟩ := split_mem hr
      rw [cut_hit 62 r2 a2 ha2]
      have := List.length_pos_iff.2 (cut_ne 62 r2)
      simp
      exact cut_ne 62 r2
    · exact Or.inl (by rw [cut_free 62 r hr])
  · rw [index_free hc, if_neg (by decide)]
    refine ⟨w, [], false, rfl, hw, by simp, Or.inr ⟨rfl, ?_⟩⟩
    rw [cut_free 62 w hc]
    simp
theorem index_t (w : List UInt8) : Ev (fun k => slices_Index_string_string.f k (Wd.map Txt.B) (Txt.B w)) (what w) := by
  unfold slices_Index_string_string.f
  have key : ∀ d (i : Nat), i + d = 5 → (∀ j : Nat, j < i → Wd.getD j [] ≠ w) → Ev (fun k => slices_Index_string_string.l0 k (Wd.map Txt.B) (Txt.B w) ((Wd.map Txt.B).length : Int) (i : Int)) (what w) := by
    intro d
    induction d with
    | zero =>
      intro i hi hj
      obtain rfl : i = 5 := by omega
      refine Ev.step (fun k => slices_Index_string_string.l0.eq_2 _ _ _ _ k) ?_
      refine ifn (by decide) ?_
      have : what w = -1 := by
        unfold what lastI lastI lastI lastI lastI lastI
        rw [if_neg (hj 4 (by omega)), if_neg (hj 3 (by omega)), if_neg (hj 2 (by omega)), if_neg (hj 1 (by omega)), if_neg (hj 0 (by omega))]
      rw [this]
      exact Ev.now _
    | succ d ih =>
      intro i hi hj
      have hi1 : i < Wd.length := by show i < 5; omega
      refine Ev.step (fun k => slices_Index_string_string.l0.eq_2 _ _ _ _ k) ?_
      refine ifp (by rw [List.length_map]; omega) (ifp (by omega) (ifp (by rw [List.length_map]; omega) ?_))
      rw [rd_B Wd i hi1, B_list, B_list, w_i hi1 (by decide)]
      by_cases c : w = Wd[i]
      · refine ifp c ?_
        have h5 : ∀ i : Fin 5, what (Wd.getD i.1 []) = (i.1 : Int) := by decide
        have : what w = (i : Int) := by
          have h6 := h5 ⟨i, hi1⟩
          rw [List.getD_eq_getElem?_getD, List.getElem?_eq_getElem hi1, Option.getD_some, ← c] at h6
          exact h6
        rw [this]
        exact Ev.now _
      · refine ifn c ?_
        refine ih (i + 1) (by omega) fun j hj2 => ?_
        by_cases h : j = i
        · subst h
          rw [List.getD_eq_getElem?_getD, List.getElem?_eq_getElem hi1, Option.getD_some]
          exact fun h => c h.symm
        · exact hj j (by omega)
  exact key 5 0 rfl (fun j h => absurd h (by omega))
set_option maxHeartbeats 1600000 in
theorem i_read (x : List UInt8) (hx : x.length ≤ 1048575) : Ev (fun k => impl_readEntry.f k (Txt.B x)) (tup (rdE 1 x)) := by
  unfold impl_readEntry.f
  rw [show (⟨#[32]⟩ : ByteArray) = Txt.B [32] from rfl, split_t 32 x (by omega)]
  refine Ev.bind (Ev.now _) ?_
  have hs := cut_short 32 x
  by_cases h4 : (cut 32 x).length = 4
  case neg =>
    rw [rdE_len h4]
    exact ifn (by rw [List.length_map]; omega) (Ev.now _)
  obtain ⟨w0, w1, w2, w3, e⟩ := four h4
  rw [e] at hs ⊢
  have s0 := hs w0 (by simp)
  have s1 := hs w1 (by simp)
  have s2 := hs w2 (by simp)
  have s3 := hs w3 (by simp)
  refine ifp rfl (ifp (by first | decide | simp) ?_)
  obtain ⟨a, r, fd, hc, ha, hr, hcase⟩ := cut_t w1 (by omega)
  rw [show rdOf ByteArray.empty ([w0, w1, w2, w3].map Txt.B) 1 = Txt.B w1 from rfl, hc]
  refine Ev.bind (Ev.now _) (ifp (by first | decide | simp) ?_)
  obtain ⟨x0, hx0, c0⟩ := rdec_t w0 (by omega) 0 10000 (by omega)
  obtain ⟨x1, hx1, c1⟩ := rdec_t a ha 0 5 (by omega)
  obtain ⟨x2, hx2, c2⟩ := rdec_t r hr 0 5 (by omega)
  obtain ⟨x3, hx3, c3⟩ := rdec_t w3 (by omega) 1 1000 (by omega)
  rw [show impl_readDecimal.f (rdOf ByteArray.empty ([w0, w1, w2, w3].map Txt.B) 0) 0 10000 = some x0 from hx0]
  refine Ev.bind (Ev.now _) ?_
  rw [show impl_readDecimal.f (Txt.B a) 0 5 = some x1 from hx1]
  refine Ev.bind (Ev.now _) ?_
  rw [show impl_readDecimal.f (Txt.B r) 0 5 = some x2 from hx2]
  refine Ev.bind (Ev.now _) ?_
  rw [whats_B]
  refine Ev.bind (Ev.now _) (ifp (by first | decide | simp) ?_)
  refine Ev.bind (show Ev (fun k => slices_Index_string_string.f k (Wd.map Txt.B) (rdOf ByteArray.empty ([w0, w1, w2, w3].map Txt.B) 2)) (what w2) from index_t w2) (ifp (by first | decide | simp) ?_)
  rw [show impl_readDecimal.f (rdOf ByteArray.empty ([w0, w1, w2, w3].map Txt.B) 3) 1 1000 = some x3 from hx3]
  refine Ev.bind (Ev.now _) ?_
  rcases hcase with ⟨rfl, hcase⟩ | ⟨rfl, hcase⟩
  case inr =>
    rw [rdE_part e hcase]
    exact ifn (by simp) (Ev.now _)
  refine ifp rfl ?_
  rcases hcase with hcut | ⟨hcut, hbad⟩
  case inr =>
    rw [rdE_part e hcut]
    have h2 : x2.2 = false := by
      rcases c2 with ⟨_, v, hv, _⟩ | ⟨h, _⟩
      · rw [hbad] at hv; cases hv
      · exact h
    by_cases q0 : x0.2 = true
    case neg => exact ifn q0 (Ev.now _)
    refine ifp q0 ?_
    by_cases q1 : x1.2 = true
    case neg => exact ifn q1 (Ev.now _)
    exact ifp q1 (ifn (by rw [h2]; simp) (Ev.now _))
  unfold rdE
  rw [e]
  simp only [hcut]
  rcases c0 with ⟨q0, v0, n0, e0, b0, b0'⟩ | ⟨q0, n0⟩
  case inr =>
    have : tup (match num w0, num a, num r, num w3 with
      | some d, some f, some t, some n => if 0 ≤ what w2 ∧ d ≤ 10000 ∧ f ≤ 5 ∧ t ≤ 5 ∧ 1 ≤ n ∧ n ≤ 1000 then some (⟨IntKind.i16.wrap (d : Int), IntKind.i8.wrap (f : Int), IntKind.i8.wrap (t : Int), what w2 % 256, IntKind.i16.wrap (n : Int)⟩ : En) else none
      | _, _, _, _ => none) = (0, 0, 0, 0, 0, false) := by
      split
      · rename_i h0 h1 h2 h3
        have := n0 _ h0
        rw [if_neg (by omega)]; rfl
      · rfl
    rw [this]
    exact ifn (by rw [q0]; simp) (Ev.now _)
  refine ifp q0 ?_
  rw [n0]
  rcases c1 with ⟨q1, v1, n1, e1, b1, b1'⟩ | ⟨q1, n1⟩
  case inr =>
    have : tup (match some v0, num a, num r, num w3 with
      | some d, some f, some t, some n => if 0 ≤ what w2 ∧ d ≤ 10000 ∧ f ≤ 5 ∧ t ≤ 5 ∧ 1 ≤ n ∧ n ≤ 1000 then some (⟨IntKind.i16.wrap (d : Int), IntKind.i8.wrap (f : Int), IntKind.i8.wrap (t : Int), what w2 % 256, IntKind.i16.wrap (n : Int)⟩ : En) else none
      | _, _, _, _ => none) = (0, 0, 0, 0, 0, false) := by
      split
      · rename_i h0 h1 h2 h3
        have := n1 _ h1
        rw [if_neg (by omega)]; rfl
      · rfl
    rw [this]
    exact ifn (by rw [q1]; simp) (Ev.now _)
  refine ifp q1 ?_
  rw [n1]
  rcases c2 with ⟨q2, v2, n2, e2, b2, b2'⟩ | ⟨q2, n2⟩
  case inr =>
    have : tup (match some v0, some v1, num r, num w3 with
      | some d, some f, some t, some n => if 0 ≤ what w2 ∧ d ≤ 10000 ∧ f ≤ 5 ∧ t ≤ 5 ∧ 1 ≤ n ∧ n ≤ 1000 then some (⟨IntKind.i16.wrap (d : Int), IntKind.i8.wrap (f : Int), IntKind.i8.wrap (t : Int), what w2 % 256, IntKind.i16.wrap (n : Int)⟩ : En) else none
      | _, _, _, _ => none) = (0, 0, 0, 0, 0, false) := by
      split
      · rename_i h0 h1 h2 h3
        have := n2 _ h2
        rw [if_neg (by omega)]; rfl
      · rfl
    rw [this]
    exact ifn (by rw [q2]; simp) (Ev.now _)
  refine ifp q2 ?_
  rw [n2]
  rcases c3 with ⟨q3, v3, n3, e3, b3, b3'⟩ | ⟨q3, n3⟩
  case inr =>
    have : tup (match some v0, some v1, some v2, num w3 with
      | some d, some f, some t, some n => if 0 ≤ what w2 ∧ d ≤ 10000 ∧ f ≤ 5 ∧ t ≤ 5 ∧ 1 ≤ n ∧ n ≤ 1000 then some (⟨IntKind.i16.wrap (d : Int), IntKind.i8.wrap (f : Int), IntKind.i8.wrap (t : Int), what w2 % 256, IntKind.i16.wrap (n : Int)⟩ : En) else none
      | _, _, _, _ => none) = (0, 0, 0, 0, 0, false) := by
      split
      · rename_i h0 h1 h2 h3
        have := n3 _ h3
        rw [if_neg (by omega)]; rfl
      · rfl
    rw [this]
    exact ifn (by rw [q3]; simp) (Ev.now _)
  refine ifp q3 ?_
  rw [n3]
  simp only
  by_cases c9 : what w2 < 0
  · rw [tup_no (by omega)]
    exact ifp c9 (Ev.now _)
  · rw [tup_yes (by omega), e0, e1, e2, e3]
    exact ifn c9 (Ev.now _)
/-! the entries of a text -/
def finE (l : List En) : List En × Int := if ledgerB 6 l = true then (l, 0) else ([], 5)
/-- What the lines tell; nothing, if one tells no entry. -/
def entries (lo : Nat) : List (List UInt8) → Option (List En)
  | [] => some []
  | x :: r => match rdE lo x, entries lo r with
    | some e, some es => some (e :: es)
    | _, _ => none
def told (lo : Nat) (ls : List (List UInt8)) : List En × Int := match entries lo ls with | some es => finE es | none => ([], 5)
def goOn (lo : Nat) (out : List En) (ls : List (List UInt8)) : List En × Int := match entries lo ls with | some es => finE (out ++ es) | none => ([], 5)
theorem goOn_none {lo : Nat} {out : List En} {x : List UInt8} {ls : List (List UInt8)} (h : rdE lo x = none) : goOn lo out (x :: ls) = ([], 5) := by
  unfold goOn entries
  rw [h]
theorem goOn_some {lo : Nat} {out : List En} {x : List UInt8} {ls : List (List UInt8)} {e : En} (h : rdE lo x = some e) : goOn lo out (x :: ls) = goOn lo (out ++ [e]) ls := by
  unfold goOn
  rw [entries, h]
  cases entries lo ls with
  | none => rfl
  | some es => simp
theorem s_lines (ls : List (List UInt8)) (n : Nat) (hn : n + 1 = ls.length) (hn2 : n ≤ 80) (hs : ∀ x ∈ ls, x.length ≤ 1048575) : Ev (fun k => spec_ReadLedger.l0 k (ls.map Txt.B) (n : Int) [] 0) (goOn 0 [] (ls.take n)) := by
  have key : ∀ d (i : Nat) (out : List En), i + d = n → out.length ≤ i → Ev (fun k => spec_ReadLedger.l0 k (ls.map Txt.B) (n : Int) out (i : Int)) (goOn 0 out ((ls.take n).drop i)) := by
    intro d
    induction d with
    | zero =>
      intro i out hi ho
      obtain rfl : i = n := by omega
      refine Ev.step (fun k => spec_ReadLedger.l0.eq_2 _ _ _ _ k) ?_
      refine ifn (by omega) ?_
      rw [List.drop_of_length_le (by simp; omega)]
      unfold spec_l06Ledger.f goOn entries finE
      refine Ev.bind (Ev.now _) ?_
      simp only [List.append_nil]
      by_cases h : ledgerB 6 out = true
      · simp only [if_pos h]; exact Ev.now _
      · simp only [if_neg h]; exact Ev.now _
    | succ d ih =>
      intro i out hi ho
      have hi1 : i < ls.length := by omega
      have hin : i < n := by omega
      refine Ev.step (fun k => spec_ReadLedger.l0.eq_2 _ _ _ _ k) ?_
      refine ifp (by omega) (ifp (by omega) (ifp (by rw [List.length_map]; omega) ?_))
      rw [rd_B ls i hi1, w_i hin (by omega)]
      refine Ev.bind (s_read ls[i] (hs _ (List.getElem_mem hi1))) ?_
      have e1 : (ls.take n).drop i = ls[i] :: (ls.take n).drop (i + 1) := by
        rw [List.drop_eq_getElem_cons (by simp; omega)]
        congr 1
        simp
      rw [e1]
      cases e : rdE 0 ls[i] with
      | none =>
        rw [goOn_none e]
        exact ifn (by simp [tup]) (Ev.now _)
      | some y =>
        rw [goOn_some e]
        refine ifp rfl (ifp (by omega) ?_)
        exact ih (i + 1) (out ++ [y]) (by omega) (by simp; omega)
  exact key n 0 [] (by omega) (by simp)
theorem i_lines (ls : List (List UInt8)) (hl : ls.length ≤ 1048577) (hs : ∀ x ∈ ls, x.length ≤ 1048575) : Ev (fun k => impl_ReadLedger.l0 k [] (ls.map Txt.B) ((ls.map Txt.B).length : Int) 0) (goOn 1 [] ls) := by
  have key : ∀ d (i : Nat) (out : List En), i + d = ls.length → out.length ≤ i → Ev (fun k => impl_ReadLedger.l0 k out (ls.map Txt.B) ((ls.map Txt.B).length : Int) (i : Int)) (goOn 1 out (ls.drop i)) := by
    intro d
    induction d with
    | zero =>
      intro i out hi ho
      obtain rfl : i = ls.length := by omega
      refine Ev.step (fun k => impl_ReadLedger.l0.eq_2 _ _ _ _ k) ?_
      refine ifn (by rw [List.length_map]; omega) ?_
      rw [List.drop_of_length_le (by omega)]
      unfold goOn entries finE
      refine Ev.bind (ev_of (validLedger_tells 6 out (by omega))) ?_
      simp only [List.append_nil]
      by_cases h : ledgerB 6 out = true
      · simp only [if_pos h]; exact Ev.now _
      · simp only [if_neg h]; exact Ev.now _
    | succ d ih =>
      intro i out hi ho
      have hi1 : i < ls.length := by omega
      refine Ev.step (fun k => impl_ReadLedger.l0.eq_2 _ _ _ _ k) ?_
      refine ifp (by rw [List.length_map]; omega) (ifp (by omega) (ifp (by rw [List.length_map]; omega) ?_))
      rw [rd_B ls i hi1, w_i hi1 (by omega)]
      refine Ev.bind (i_read ls[i] (hs _ (List.getElem_mem hi1))) ?_
      rw [List.drop_eq_getElem_cons hi1]
      cases e : rdE 1 ls[i] with
      | none =>
        rw [goOn_none e]
        exact ifn (by simp [tup]) (Ev.now _)
      | some y =>
        rw [goOn_some e]
        refine ifp rfl (ifp (by omega) ?_)
        exact ih (i + 1) (out ++ [y]) (by omega) (by simp; omega)
  exact key ls.length 0 [] (by omega) (by simp)
/-! both -/
theorem rdE_up {x : List UInt8} {e : En} (h : rdE 1 x = some e) : rdE 0 x = some e := by
  unfold rdE at h ⊢
  split at h
  · split at h
    · split at h
      · split at h
        · rename_i hc
          rw [if_pos (by omega)]
          exact h
        · cases h
      · cases h
    · cases h
  · cases h
theorem rdE_says {lo : Nat} {x : List UInt8} {e : En} (h : rdE lo x = some e) : ∃ w0 w1 w2 w3 p0 p1 d f t n, cut 32 x = [w0, w1, w2, w3] ∧ cut 62 w1 = [p0, p1] ∧ num w0 = some d ∧ num p0 = some f ∧ num p1 = some t ∧ num w3 = some n ∧
    (0 ≤ what w2 ∧ d ≤ 10000 ∧ f ≤ 5 ∧ t ≤ 5 ∧ lo ≤ n ∧ n ≤ 1000) ∧ e = ⟨IntKind.i16.wrap (d : Int), IntKind.i8.wrap (f : Int), IntKind.i8.wrap (t : Int), what w2 % 256, IntKind.i16.wrap (n : Int)⟩ := by
  unfold rdE at h
  split at h
  · rename_i h1
    split at h
    · rename_i h2
      split at h
      · rename_i h3 h4 h5 h6
        split at h
        · rename_i h7
          exact ⟨_, _, _, _, _, _, _, _, _, _, h1, h2, h3, h4, h5, h6, h7, (Option.some.inj h).symm⟩
        · cases h
      · cases h
    · cases h
  · cases h
theorem rdE_gap {x : List UInt8} {e : En} (h : rdE 0 x = some e) (h1 : rdE 1 x = none) : e.f4 = 0 := by
  obtain ⟨w0, w1, w2, w3, p0, p1, d, f, t, n, a1, a2, a3, a4, a5, a6, a7, a8⟩ := rdE_says h
  unfold rdE at h1
  rw [a1] at h1
  simp only [a2, a3, a4, a5, a6] at h1
  by_cases hn : 1 ≤ n
  · rw [if_pos (by omega)] at h1
    cases h1
  · obtain rfl : n = 0 := by omega
    rw [a8]
    show IntKind.i16.wrap ((0 : Nat) : Int) = 0
    decide
theorem entries_len {lo : Nat} : ∀ {ls : List (List UInt8)} {es : List En}, entries lo ls = some es → es.length = ls.length
  | [], es, h => by
    obtain rfl := Option.some.inj h
    rfl
  | x :: r, es, h => by
    unfold entries at h
    cases c : rdE lo x with
    | none => rw [c] at h; cases h
    | some e =>
      cases c2 : entries lo r with
      | none => rw [c, c2] at h; cases h
      | some es' =>
        rw [c, c2] at h
        obtain rfl := Option.some.inj h
        simp [entries_len c2]
theorem entries_up : ∀ {ls : List (List UInt8)} {es : List En}, entries 1 ls = some es → entries 0 ls = some es
  | [], es, h => h
  | x :: r, es, h => by
    unfold entries at h ⊢
    split at h
    · rename_i e1 e2
      rw [rdE_up e1, entries_up e2]
      exact h
    · cases h
theorem entries_gap : ∀ {ls : List (List UInt8)} {es : List En}, entries 0 ls = some es → entries 1 ls = none → ∃ y ∈ es, y.f4 = 0
  | [], es, _, h => by cases h
  | x :: r, es, h, h1 => by
    unfold entries at h h1
    split at h
    · rename_i e es' e1 e2
      obtain rfl := Option.some.inj h
      cases c : rdE 1 x with
      | none => exact ⟨e, by simp, rdE_gap e1 c⟩
      | some e' =>
        rw [c] at h1
        cases c2 : entries 1 r with
        | none =>
          obtain ⟨y, hy, h0⟩ := entries_gap e2 c2
          exact ⟨y, List.mem_cons_of_mem _ hy, h0⟩
        | some z => rw [c2] at h1; cases h1
    · cases h
theorem bad_entry {l : List En} {y : En} (hy : y ∈ l) (h : y.f4 = 0) : ledgerB 6 l = false := by
  obtain ⟨j, hj, rfl⟩ := List.getElem_of_mem hy
  refine ledgerB_no hj ?_
  unfold okAt
  rw [getD_lt hj]
  unfold entryB
  rw [h]
  simp [inB, wrap64]
theorem told_one (ls : List (List UInt8)) : goOn 0 [] ls = goOn 1 [] ls := by
  unfold goOn
  cases c : entries 1 ls with
  | some es => rw [entries_up c]
  | none =>
    cases c0 : entries 0 ls with
    | none => rfl
    | some es =>
      obtain ⟨y, hy, h0⟩ := entries_gap c0 c
      simp only [List.nil_append]
      unfold finE
      rw [bad_entry hy h0]
      rfl
theorem finE_len {l : List En} (h : ledgerB 6 l = true) : l.length ≤ 80 := by
  unfold ledgerB at h
  simp only [Bool.and_eq_true, decide_eq_true_eq] at h
  exact h.2.1
theorem goOn_short (lo : Nat) (ls : List (List UInt8)) : (goOn lo [] ls).1.length ≤ 80 := by
  unfold goOn
  split
  · unfold finE
    split
    · rename_i h
      exact finE_len h
    · simp
  · simp
theorem goOn_long (lo : Nat) (ls : List (List UInt8)) (h : 80 < ls.length) : goOn lo [] ls = ([], 5) := by
  unfold goOn
  cases c : entries lo ls with
  | none => rfl
  | some es =>
    have := entries_len c
    simp only [List.nil_append]
    unfold finE
    rw [if_neg]
    intro hh
    have := finE_len hh
    omega
theorem suffix_t (l : List UInt8) (hl : l.length ≤ 1048576) : strings_CutSuffix.f (Txt.B l) (⟨#[10]⟩ : ByteArray) = some (Txt.B (Lib.trimSuffix l [10]), Lib.hasSuffix l [10]) := by
  unfold strings_CutSuffix.f
  rw [if_pos (by rw [Txt.B_size]; omega), Txt.B_toList]
  rfl
theorem ledger_same (l : List UInt8) (hl : l.length ≤ 1048576) : ∃ r : List En × Int, r.1.length ≤ 80 ∧ Ev (fun k => spec_ReadLedger.f k (Txt.B l)) r ∧ Ev (fun k => impl_ReadLedger.f k (Txt.B l)) r := by
  have hz : (Txt.B l).toList = l := B_list l
  have hlen := cut_len 10 l
  have hpos : 0 < (cut 10 l).length := List.length_pos_iff.2 (cut_ne 10 l)
  obtain ⟨n, hn⟩ : ∃ n, n + 1 = (cut 10 l).length := ⟨(cut 10 l).length - 1, by omega⟩
  have ew : wrap64 ((((cut 10 l).map Txt.B).length : Int) - 1) = (n : Int) := by
    rw [List.length_map, w_id (by omega) (by omega)]
    omega
  have hlast : (cut 10 l).getLast? = some ((cut 10 l)[n]'(by omega)) := by
    rw [List.getLast?_eq_getElem?, List.getElem?_eq_getElem (by omega)]
    congr 2
    omega
  have hspec : ∀ r, ((cut 10 l)[n]'(by omega) = [] → Ev (fun k => spec_ReadLedger.j0 k ((cut 10 l).map Txt.B) (n : Int) (decide ((n : Int) > 80))) r) → ((cut 10 l)[n]'(by omega) ≠ [] → r = ([], 5)) → Ev (fun k => spec_ReadLedger.f k (Txt.B l)) r := by
    intro r h1 h2
    unfold spec_ReadLedger.f
    refine Ev.bind (lsplit_t 10 l hl) ?_
    rw [ew]
    refine ifp (by omega) (ifp (by rw [List.length_map]; omega) ?_)
    rw [rd_B (cut 10 l) n (by omega), B_list]
    by_cases c : (cut 10 l)[n]'(by omega) = []
    · exact ifp c (h1 c)
    · rw [h2 c]
      refine ifn c ?_
      refine Ev.step (fun k => spec_ReadLedger.j0.eq_2 _ _ _ k) ?_
      exact ifp rfl (Ev.now _)
  by_cases c0 : l = []
  · subst c0
    have e0 : n = 0 := by simp [cut] at hn; omega
    subst e0
    have e5 : finE ([] : List En) = ([], 0) := by
      unfold finE
      rw [if_pos (by decide)]
    refine ⟨([], 0), by simp, hspec _ (fun _ => ?_) (fun h => absurd rfl h), ?_⟩
    · refine Ev.step (fun k => spec_ReadLedger.j0.eq_2 _ _ _ k) ?_
      refine ifn (by simp) ?_
      refine Ev.step (fun k => spec_ReadLedger.l0.eq_2 _ _ _ _ k) ?_
      refine ifn (by simp) ?_
      unfold spec_l06Ledger.f
      refine Ev.bind (Ev.now _) ?_
      exact ifp (by decide) (Ev.now _)
    · unfold impl_ReadLedger.f
      refine Ev.bind (Ev.now _) ?_
      exact ifp (by rw [hz]) (Ev.now _)
  · have himpl : ∀ r, (Lib.hasSuffix l [10] = true → Ev (fun k => impl_ReadLedger.l0 k [] ((cut 10 (Lib.trimSuffix l [10])).map Txt.B) ((((cut 10 (Lib.trimSuffix l [10])).map Txt.B).length : Int)) 0) r) → (Lib.hasSuffix l [10] = false → r = ([], 5)) → Ev (fun k => impl_ReadLedger.f k (Txt.B l)) r := by
      intro r h1 h2
      unfold impl_ReadLedger.f
      refine Ev.bind (Ev.now _) ?_
      refine ifn (by rw [hz]; exact c0) ?_
      rw [suffix_t l hl]
      refine Ev.bind (Ev.now _) ?_
      by_cases g : Lib.hasSuffix l [10] = true
      · refine ifp g ?_
        have hle : (Lib.trimSuffix l [10]).length ≤ 1048576 := by
          unfold Lib.trimSuffix
          rw [if_pos g]
          simp; omega
        have e0 := split_t 10 (Lib.trimSuffix l [10]) hle
        simp only
        rw [show (⟨#[10]⟩ : ByteArray) = Txt.B [10] from rfl, e0]
        refine Ev.bind (Ev.now _) ?_
        exact h1 g
      · rw [h2 (Bool.eq_false_iff.2 g)]
        exact ifn g (Ev.now _)
    by_cases g : Lib.hasSuffix l [10] = true
    · obtain ⟨b, hb⟩ : ∃ b, b ++ [10] = l := List.isSuffixOf_iff_suffix.1 g
      subst hb
      have et : Lib.trimSuffix (b ++ [10]) [10] = b := by
        unfold Lib.trimSuffix
        rw [if_pos g]
        simp
      rw [et] at himpl
      have ec := cut_end 10 b
      have hbl : b.length ≤ 1048575 := by simp at hl; omega
      have hn2 : n = (cut 10 b).length := by
        rw [ec] at hn
        simp at hn
        exact hn
      have hl0 : (cut 10 (b ++ [10]))[n]'(by omega) = [] := by
        simp only [ec, hn2]
        simp
      have hcl := cut_len 10 b
      have hrow : ∀ x ∈ cut 10 b, x.length ≤ 1048575 := fun x hx => by have := cut_short 10 b x hx; omega
      have et2 : (cut 10 (b ++ [10])).take n = cut 10 b := by rw [ec, hn2]; simp
      refine ⟨goOn 1 [] (cut 10 b), goOn_short _ _, hspec _ (fun _ => ?_) (fun h => absurd hl0 h), himpl _ (fun _ => i_lines (cut 10 b) (by omega) hrow) (fun h => ?_)⟩
      · refine Ev.step (fun k => spec_ReadLedger.j0.eq_2 _ _ _ k) ?_
        by_cases h80 : n ≤ 80
        · refine ifn (by simp; omega) ?_
          rw [← told_one]
          have := s_lines (cut 10 (b ++ [10])) n hn h80 (fun x hx => by
            rw [ec] at hx
            rcases List.mem_append.1 hx with hx | hx
            · exact hrow x hx
            · rw [List.mem_singleton.1 hx]; simp)
          rw [et2] at this
          exact this
        · rw [goOn_long 1 _ (by omega)]
          exact ifp (by simp; omega) (Ev.now _)
      · rw [g] at h; cases h
    · refine ⟨([], 5), by simp, hspec _ (fun h => ?_) (fun _ => rfl), himpl _ (fun h => absurd h g) (fun _ => rfl)⟩
      rw [h] at hlast
      rcases cut_last 10 l hlast with e | ⟨a, e⟩
      · exact absurd e c0
      · exfalso
        apply g
        exact List.isSuffixOf_iff_suffix.2 ⟨a, e.symm⟩
end Txr
end Go.Proofs.YthkifkfnlmjafaaDoor.G
