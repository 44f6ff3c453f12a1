import Derived.Test.YthkifkfnlmjafaaZFLibWalk
import Derived.Test.YthkifkfnlmjafaaZFLibSpan
import Derived.Test.YthkifkfnlmjafaaZFMissed
import Derived.Test.YthkifkfnlmjafaaZG4
import Derived.Test.YthkifkfnlmjafaaZG3
import Derived.Test.YthkifkfnlmjafaaZG4
import Derived.Test.YthkifkfnlmjafaaZG4
namespace Go.Proofs.Ythkifkfnlmjafaa.G
open Go.RowKit Go.Proofs.YthkifkfnlmjafaaW.PrintWords Go.Proofs.YthkifkfnlmjafaaW.PrintLast Go.Proofs.YthkifkfnlmjafaaW.PrintMore
attribute [local go_sem] max2_int min2_int max_two min_two max_three min_three max_four min_four
set_option linter.unusedVariables false
set_option linter.unusedSimpArgs false
open Go.Proofs.Ythkifkfnlmjafaa.Wk Go.Proofs.Ythkifkfnlmjafaa.Pl
namespace LW
abbrev P2 := S64
theorem mfp {α : Type} {c : Prop} [Decidable c] (hc : c) {f g : Nat → Option α} {r : α} (h : Ev f r) : Ev (fun k => if c then f k else g k) r := by
  simp only [if_pos hc]
  exact h
theorem mfn {α : Type} {c : Prop} [Decidable c] (hc : ¬ c) {f g : Nat → Option α} {r : α} (h : Ev g r) : Ev (fun k => if c then f k else g k) r := by
  simp only [if_neg hc]
  exact h
theorem take_next {X s : List Int} {i : Nat} (hX : i < X.length) (hs : i < s.length) (h : X.take i = s.take i) (e : X[i] = s[i]) : X.take (i + 1) = s.take (i + 1) := by
  rw [List.take_add_one, List.take_add_one, h, List.getElem?_eq_getElem hX, List.getElem?_eq_getElem hs, e]
theorem rd_nat (l : List Int) (i : Nat) (h : i < l.length) : rd l (i : Int) = l[i] := getD_lt h 0
theorem sameRow_any (X s : List Int) (hl : X.length ≤ 1099511627776) (hs : s.length ≤ 1099511627776) : Ev (fun k => spec_SameRow.f k X s) (decide (X = s)) := by
  unfold spec_SameRow.f
  by_cases hlen : X.length = s.length
  case neg =>
    rw [decide_eq_false (fun e => hlen (by rw [e]))]
    exact mfn (by omega) (Ev.now _)
  refine mfp (by omega) ?_
  have key : ∀ d (i : Nat), i + d = X.length → X.take i = s.take i → Ev (fun k => spec_SameRow.l0 k X s (i : Int)) (decide (X = s)) := by
    intro d
    induction d with
    | zero =>
      intro i hi ht
      refine Ev.step (fun k => spec_SameRow.l0.eq_2 _ _ _ k) ?_
      rw [List.take_of_length_le (by omega), List.take_of_length_le (by omega)] at ht
      rw [decide_eq_true ht]
      exact mfn (by omega) (Ev.now _)
    | succ d ih =>
      intro i hi ht
      refine Ev.step (fun k => spec_SameRow.l0.eq_2 _ _ _ k) ?_
      refine mfp (by omega) (mfp (by omega) (mfp (by omega) ?_))
      rw [rd_nat X i (by omega), rd_nat s i (by omega), w_i (n := X.length) (by omega) (by omega)]
      by_cases e : X[i] = s[i]
      · exact mfp e (ih (i + 1) (by omega) (take_next (by omega) (by omega) ht e))
      · rw [decide_eq_false (fun h => e (by simp only [h]))]
        exact mfn e (Ev.now _)
  exact key X.length 0 (by omega) (by simp)
theorem equal_any (X s : List Int) (hl : X.length ≤ 1099511627776) (hs : s.length ≤ 1099511627776) : Ev (fun k => impl_Row_uint8_45.f k X s) (decide (X = s)) := by
  unfold impl_Row_uint8_45.f
  by_cases hlen : X.length = s.length
  case neg =>
    rw [decide_eq_false (fun e => hlen (by rw [e]))]
    exact mfn (by omega) (Ev.now _)
  refine mfp (by omega) ?_
  have key : ∀ d (i : Nat), i + d = X.length → X.take i = s.take i → Ev (fun k => impl_Row_uint8_45.l0 k X s (X.length : Int) (i : Int)) (decide (X = s)) := by
    intro d
    induction d with
    | zero =>
      intro i hi ht
      refine Ev.step (fun k => impl_Row_uint8_45.l0.eq_2 _ _ _ _ k) ?_
      rw [List.take_of_length_le (by omega), List.take_of_length_le (by omega)] at ht
      rw [decide_eq_true ht]
      exact mfn (by omega) (Ev.now _)
    | succ d ih =>
      intro i hi ht
      refine Ev.step (fun k => impl_Row_uint8_45.l0.eq_2 _ _ _ _ k) ?_
      refine mfp (by omega) (mfp (by omega) (mfp (by omega) (mfp (by omega) ?_)))
      rw [rd_nat X i (by omega), rd_nat s i (by omega), w_i (n := X.length) (by omega) (by omega)]
      by_cases e : X[i] = s[i]
      · exact mfp e (ih (i + 1) (by omega) (take_next (by omega) (by omega) ht e))
      · rw [decide_eq_false (fun h => e (by simp only [h]))]
        exact mfn e (Ev.now _)
  exact key X.length 0 (by omega) (by simp)
theorem comes_t {n : Nat} {x : W} (h : GoodW n x) (d : Int) (h0 : -1 ≤ d) (h1 : d ≤ 1000000000) : impl_Walker_comes.f x.f0 x.f1 x.f2 x.f3 x.f4 x.f5 d = some (onW d x) := by
  have g0 := h.f0
  have g1 := h.f1
  unfold impl_Walker_comes.f onW
  rw [w_id (x := x.f0) (by omega) (by omega), w_id (x := x.f1) (by omega) (by omega), w_id (x := d - x.f0) (by omega) (by omega)]
  by_cases c : x.f0 ≤ d
  · rw [if_pos (by omega), if_neg (by omega), tmod_pos (by omega), decide_eq_true c, Bool.true_and]
    rfl
  · rw [if_neg (by omega), decide_eq_false c, Bool.false_and]
def back (x : W) : W := ⟨x.f0, x.f1, x.f2, x.f3, x.f4, -x.f5⟩
theorem vis_back (n : Nat) (x : W) (i : Nat) : vis n (back x) i = vis n x i := by
  unfold vis
  show vN n (back x) x.f4.toNat i = _
  have : ∀ j, vN n (back x) j i = vN n x j i := by
    intro j
    induction j with
    | zero => rfl
    | succ j ih =>
      unfold vN
      rw [ih]
      rfl
  exact this _
theorem back_good {n : Nat} {x : W} (h : GoodW n x) : GoodW n (back x) := ⟨h.f0, h.f1, h.f2, h.f3, h.f4, by have := h.f5; show -7 ≤ -x.f5 ∧ -x.f5 ≤ 7; omega⟩
def without (X : List Int) (x : W) : List Int := behindL X [x] (fun _ => -1)
theorem spec_without {X : List Int} {x : W} (hn : 1 ≤ X.length ∧ X.length ≤ 60) (h : GoodW X.length x) (hb : ∀ i : Nat, 0 ≤ X.getD i 0 ∧ X.getD i 0 ≤ 7) : Ev (fun k => spec_l05Turned.f k X x.f0 x.f1 x.f2 x.f3 x.f4 (IntKind.i8.wrap (-x.f5)) 1) (without X x) := by
  have hw : IntKind.i8.wrap (-x.f5) = -x.f5 := by
    have h5 := h.f5
    have : ∀ v : Fin 15, IntKind.i8.wrap ((v.1 : Int) - 7) = (v.1 : Int) - 7 := by decide
    have h6 := this ⟨(-x.f5 + 7).toNat, by omega⟩
    simp only at h6
    rw [show (((-x.f5 + 7).toNat : Nat) : Int) - 7 = -x.f5 by omega] at h6
    exact h6
  rw [hw]
  have := turned_t hn.1 hn.2 (back_good h) (fun i => X.getD i 0) (fun i _ => hb i) 1 (by omega)
  rw [← rowSelf X] at this
  have e : without X x = rowF X.length fun i => ((fun i => X.getD i 0) i + 1 * vis X.length (back x) i * (back x).f5) % 8 := by
    unfold without behindL
    refine rowF_congr fun i _ => ?_
    simp only [sw, vis_back]
    congr 1
    show _ = X.getD i 0 + 1 * vis X.length x i * (-x.f5)
    rw [Int.mul_neg, Int.one_mul, Int.neg_mul, Int.one_mul, Int.neg_mul]
    omega
  rw [e]
  exact this
theorem impl_without {X : List Int} {x : W} (hn : 1 ≤ X.length ∧ X.length ≤ 60) (h : GoodW X.length x) (hb : ∀ i : Nat, 0 ≤ X.getD i 0 ∧ X.getD i 0 ≤ 7) : Ev (fun k => mwalk.f k X [x]) (without X x) := by
  unfold mwalk.f without
  refine walked_t X [x] minusF (fun _ => -1) hn (by simp) (fun y hy => ?_) (fun i => by have := hb i; omega) (fun y hy => ⟨rfl, by omega, by omega⟩)
  rw [List.mem_singleton.1 hy]
  exact h
theorem behind_seven (r : List Int) (l : List W) (c : W → Int) (i : Nat) : 0 ≤ (behindL r l c).getD i 0 ∧ (behindL r l c).getD i 0 ≤ 7 := by
  by_cases hi : i < r.length
  · unfold behindL
    rw [rowF_get _ hi]
    omega
  · have : (behindL r l c).getD i 0 = 0 := by
      rw [List.getD_eq_getElem?_getD, List.getElem?_eq_none (by rw [behindL_len]; omega)]
      rfl
    omega
theorem day_step {n : Nat} {r : List Int} {l : List W} {X s t : List Int} {x : W} (a : Int) (i j : Nat) (out2 out3 : List P2) (o : List P2 × Int) (hi : i < l.length) (hj : (j : Int) ≤ a) (ha : a ≤ 400) (hob : out2.length ≤ 8000)
    (hrd : rd_T53 l (i : Int) = x) (hg : GoodW n x) (heq : Ev (fun k => impl_Row_uint8_45.f k t s) true) (ho3 : out3 = if onW (j : Int) x = true then out2 ++ [⟨(i : Int), (j : Int)⟩] else out2)
    (g1 : Ev (fun k => spec_MissedWalks.l1 k l a s out3 X (i : Int) ((j + 1 : Nat) : Int)) o) (g2 : Ev (fun k => impl_MissedWalks.l1 k r l a s out3 (i : Int) t ((j + 1 : Nat) : Int) l (l.length : Int) (i : Int) x.f0 x.f1 x.f2 x.f3 x.f4 x.f5) o) :
    Ev (fun k => spec_MissedWalks.l1 k l a s out2 X (i : Int) (j : Int)) o ∧ Ev (fun k => impl_MissedWalks.l1 k r l a s out2 (i : Int) t (j : Int) l (l.length : Int) (i : Int) x.f0 x.f1 x.f2 x.f3 x.f4 x.f5) o := by
  have hjn : j < 401 := by omega
  have hwj : wrap64 ((j : Int) + 1) = ((j + 1 : Nat) : Int) := w_i hjn (by decide)
  have hj0 : (j : Int) ≤ 400 := Int.le_trans hj ha
  have hj1 : (j : Int) ≤ 1000000000 := Int.le_trans hj0 (by decide)
  have hj2 : -1 ≤ (j : Int) := Int.le_trans (by decide) (Int.natCast_nonneg j)
  have hon := spec_on_t hg (j : Int) hj2 hj1
  have hco := comes_t hg (j : Int) hj2 hj1
  have hcap : out2.length < 8796093022208 := Nat.lt_of_le_of_lt hob (by decide)
  have hi0 : (0 : Int) ≤ (i : Int) := Int.natCast_nonneg i
  have hi1 : (i : Int) < (l.length : Int) := Int.ofNat_lt.2 hi
  clear hjn hj0 hj1 hj2; generalize onW (j : Int) x = c at *
  refine ⟨Ev.step (fun k => spec_MissedWalks.l1.eq_2 _ _ _ _ _ _ _ k) ?_, Ev.step (fun k => impl_MissedWalks.l1.eq_2 ..) ?_⟩
  · refine mfp hj (mfp hi0 (mfp hi1 ?_))
    rw [hrd, hon, hwj]
    refine Ev.bind (Ev.now _) ?_
    cases c with
    | true =>
      refine mfp rfl (mfp hcap ?_)
      rw [if_pos rfl] at ho3
      rw [← ho3]; exact g1
    | false =>
      refine mfn (by decide) ?_
      rw [if_neg (by decide)] at ho3
      rw [← ho3]; exact g1
  · refine mfp hj ?_
    refine Ev.bind heq ?_
    refine Ev.step (fun k => impl_MissedWalks.j3.eq_2 ..) ?_
    refine mfp rfl ?_
    rw [hco, hwj]
    refine Ev.bind (Ev.now _) ?_
    cases c with
    | true =>
      refine mfp rfl (mfp hcap ?_)
      rw [if_pos rfl] at ho3
      rw [← ho3]; exact g2
    | false =>
      refine mfn (by decide) ?_
      rw [if_neg (by decide)] at ho3
      rw [← ho3]; exact g2
theorem days_t {n : Nat} {r : List Int} {l : List W} {X s t : List Int} {x : W} (a : Int) (i B N : Nat) (hi : i < l.length) (hl : l.length ≤ 8) (ha : a ≤ 400) (hB : B ≤ 8000)
    (hrd : rd_T53 l (i : Int) = x) (hg : GoodW n x) (heq : Ev (fun k => impl_Row_uint8_45.f k t s) true)
    (next : ∀ out : List P2, out.length ≤ B → ∃ o : List P2, o.length ≤ N ∧ Ev (fun k => spec_MissedWalks.l0 k l a s out X ((i + 1 : Nat) : Int)) (o, 0) ∧ Ev (fun k => impl_MissedWalks.l0 k r l a s out l (l.length : Int) ((i + 1 : Nat) : Int)) (o, 0)) :
    ∀ (e j : Nat) (out2 : List P2), (j : Int) + e = a + 1 → out2.length + e ≤ B → ∃ o : List P2, o.length ≤ N ∧ Ev (fun k => spec_MissedWalks.l1 k l a s out2 X (i : Int) (j : Int)) (o, 0) ∧
      Ev (fun k => impl_MissedWalks.l1 k r l a s out2 (i : Int) t (j : Int) l (l.length : Int) (i : Int) x.f0 x.f1 x.f2 x.f3 x.f4 x.f5) (o, 0) := by
  have hwi : wrap64 ((i : Int) + 1) = ((i + 1 : Nat) : Int) := w_i hi (Nat.le_trans hl (by decide))
  intro e
  induction e with
  | zero =>
    intro j out2 hj ho2
    obtain ⟨o, o1, o2, o3⟩ := next out2 (by omega)
    have hna : ¬ (j : Int) ≤ a := by omega
    refine ⟨o, o1, Ev.step (fun k => spec_MissedWalks.l1.eq_2 _ _ _ _ _ _ _ k) ?_, Ev.step (fun k => impl_MissedWalks.l1.eq_2 .. ) ?_⟩
    · refine mfn hna ?_
      rw [hwi]
      exact o2
    · refine mfn hna ?_
      refine Ev.step (fun k => impl_MissedWalks.j3.eq_2 ..) ?_
      refine mfn (by decide) ?_
      rw [hwi]
      exact o3
  | succ e ihe =>
    intro j out2 hj ho2
    have hle : (if onW (j : Int) x = true then out2 ++ [(⟨(i : Int), (j : Int)⟩ : P2)] else out2).length + e ≤ B := by
      split
      · rw [List.length_append, List.length_singleton]; omega
      · omega
    obtain ⟨o, o1, o2, o3⟩ := ihe (j + 1) _ (by omega) hle
    exact ⟨o, o1, day_step a i j out2 _ (o, 0) hi (by omega) ha (by omega) hrd hg heq rfl o2 o3⟩
theorem walkers_t {r : List Int} {l : List W} (s X : List Int) (a : Int) (hG : GoodR r l) (h0 : 0 ≤ a) (h1 : a ≤ 400) (hs : s.length ≤ 1099511627776) (hXl : X.length = r.length) (h7 : ∀ i : Nat, 0 ≤ X.getD i 0 ∧ X.getD i 0 ≤ 7)
    (hrow : Ev (fun k => impl_rowOn.f k r l a) X) (b : Nat → Nat) (hb : ∀ i, b i + 401 ≤ b (i + 1)) (hb8 : ∀ i, i ≤ 8 → b i ≤ 8000) :
    ∀ d (i : Nat) (out : List P2), i + d = l.length → out.length ≤ b i →
      ∃ o : List P2, o.length ≤ b l.length ∧ Ev (fun k => spec_MissedWalks.l0 k l a s out X (i : Int)) (o, 0) ∧ Ev (fun k => impl_MissedWalks.l0 k r l a s out l (l.length : Int) (i : Int)) (o, 0) := by
  have hn : 1 ≤ X.length ∧ X.length ≤ 60 := by rw [hXl]; exact hG.n
  have hXm : X.length ≤ 1099511627776 := Nat.le_trans hn.2 (by decide)
  have h8 := hG.l8
  intro d
  induction d with
  | zero =>
    intro i out hi ho
    obtain rfl : i = l.length := by omega
    have hno : ¬ (l.length : Int) < (l.length : Int) := by omega
    refine ⟨out, ho, Ev.step (fun k => spec_MissedWalks.l0.eq_2 _ _ _ _ _ _ k) ?_, Ev.step (fun k => impl_MissedWalks.l0.eq_2 _ _ _ _ _ _ _ _ k) ?_⟩
    · exact mfn hno (Ev.now _)
    · exact mfn hno (Ev.now _)
  | succ d ih =>
    intro i out hi ho
    have hi1 : i < l.length := by omega
    have hrd : rd_T53 l (i : Int) = l[i] := getD_lt hi1 z53
    have hg : GoodW X.length l[i] := by rw [hXl]; exact hG.good _ (List.getElem_mem hi1)
    have hsp := spec_without hn hg h7
    have him := impl_without hn hg h7
    have hwl : (without X l[i]).length ≤ 1099511627776 := Nat.le_trans (Nat.le_of_eq (behindL_len _ _ _)) hXm
    have hsame := sameRow_any (without X l[i]) s hwl hs
    have heq := equal_any (without X l[i]) s hwl hs
    have hwi : wrap64 ((i : Int) + 1) = ((i + 1 : Nat) : Int) := w_i hi1 (Nat.le_trans h8 (by decide))
    have hz0 : (0 : Int) ≤ (i : Int) := Int.natCast_nonneg i
    have hz1 : (i : Int) < (l.length : Int) := Int.ofNat_lt.2 hi1
    generalize without X l[i] = t at *
    generalize l[i] = x at *
    have start : ∀ o : List P2 × Int, Ev (fun k => impl_MissedWalks.l1 k r l a s out (i : Int) t 0 l (l.length : Int) (i : Int) x.f0 x.f1 x.f2 x.f3 x.f4 x.f5) o → Ev (fun k => impl_MissedWalks.l0 k r l a s out l (l.length : Int) (i : Int)) o := by
      intro o h
      refine Ev.step (fun k => impl_MissedWalks.l0.eq_2 _ _ _ _ _ _ _ _ k) ?_
      refine mfp hz1 (mfp hz0 (mfp hz1 ?_))
      refine Ev.bind hrow ?_
      rw [hrd]
      exact Ev.bind him h
    have hbi := hb i
    have hbb := hb8 (i + 1) (by omega)
    by_cases hX : t = s
    · rw [decide_eq_true hX] at hsame heq
      obtain ⟨o, o1, o2, o3⟩ := days_t (r := r) (X := X) a i (b (i + 1)) (b l.length) hi1 h8 h1 hbb hrd hg heq (fun out2 ho2 => ih (i + 1) out2 (by omega) ho2) (a + 1).toNat 0 out (by omega) (by omega)
      rw [Int.natCast_zero] at o2 o3
      refine ⟨o, o1, Ev.step (fun k => spec_MissedWalks.l0.eq_2 _ _ _ _ _ _ k) ?_, start _ o3⟩
      refine mfp hz1 (mfp hz0 ?_)
      rw [hrd]
      refine Ev.bind hsp (Ev.bind hsame ?_)
      exact mfp rfl o2
    · rw [decide_eq_false hX] at hsame heq
      obtain ⟨o, o1, o2, o3⟩ := ih (i + 1) out (by omega) (by omega)
      refine ⟨o, o1, Ev.step (fun k => spec_MissedWalks.l0.eq_2 _ _ _ _ _ _ k) ?_, start _ ?_⟩
      · refine mfp hz1 (mfp hz0 ?_)
        rw [hrd]
        refine Ev.bind hsp (Ev.bind hsame ?_)
        rw [hwi]
        exact mfn (by decide) o2
      · refine Ev.step (fun k => impl_MissedWalks.l1.eq_2 ..) ?_
        refine mfp h0 (Ev.bind heq ?_)
        refine Ev.step (fun k => impl_MissedWalks.j3.eq_2 ..) ?_
        rw [hwi]
        exact mfn (by decide) o3
theorem missed_loops {r : List Int} {l : List W} (s : List Int) (a : Int) (hG : GoodR r l) (h0 : 0 ≤ a) (h1 : a ≤ 400) (hs : s.length ≤ 1048576) :
    ∃ o : List P2, o.length ≤ 8000 ∧ Ev (fun k => spec_MissedWalks.l0 k l a s [] (behindL r l (untilW a)) 0) (o, 0) ∧ Ev (fun k => impl_MissedWalks.l0 k r l a s [] l (l.length : Int) 0) (o, 0) := by
  have ha : a ≤ 90000000 := Int.le_trans h1 (by decide)
  have hrow := rowOn_t hG a h0 ha
  obtain ⟨b, hb, hb8, hb0⟩ : ∃ b : Nat → Nat, (∀ i, b i + 401 ≤ b (i + 1)) ∧ (∀ i, i ≤ 8 → b i ≤ 8000) ∧ 0 ≤ b 0 := ⟨fun i => 401 * i, fun i => by show 401 * i + 401 ≤ 401 * (i + 1); omega, fun i hi => by show 401 * i ≤ 8000; omega, Nat.zero_le _⟩
  obtain ⟨o, o1, o2, o3⟩ := walkers_t s (behindL r l (untilW a)) a hG h0 h1 (Nat.le_trans hs (by decide)) (behindL_len r l (untilW a)) (behind_seven r l (untilW a)) hrow b hb hb8 l.length 0 [] (by omega) hb0
  rw [Int.natCast_zero] at o2 o3
  exact ⟨o, Nat.le_trans o1 (hb8 _ hG.l8), o2, o3⟩
theorem day2_t (a : Int) : spec_l05Day.f a = some (inB a 0 10000) := by
  unfold spec_l05Day.f
  rw [l00In_t]
  rfl
theorem missed_same (r : List Int) (l : List W) (a : Int) (s : List Int) (hr : ∀ x ∈ r, 0 ≤ x ∧ x ≤ 255) (hl : ∀ x ∈ l, SmallW x) (hr2 : r.length ≤ 1048576) (hl2 : l.length ≤ 1048576) (hs2 : s.length ≤ 1048576) :
    ∃ o : List P2 × Int, o.1.length ≤ 8000 ∧ Ev (fun k => spec_MissedWalks.f k r l a s) o ∧ Ev (fun k => impl_MissedWalks.f k r l a s) o := by
  have himpl : ∀ o : List P2 × Int, Ev (fun k => impl_MissedWalks.j0 k r l a s (askC ((rowOkB r && walkersB r.length l) && (rowOkB s && ((s.length : Int) == (r.length : Int)))) (inB a 0 400))) o → Ev (fun k => impl_MissedWalks.f k r l a s) o := by
    intro o h
    unfold impl_MissedWalks.f
    rw [rowOk_t]
    refine Ev.bind (Ev.now _) ?_
    have hwi : impl_within.f a 0 400 = some (inB a 0 400) := by
      unfold impl_within.f inB
      by_cases c : 0 ≤ a <;> simp [c]
    by_cases c1 : (rowOkB r && walkersB r.length l) = true
    · refine mfp c1 ?_
      unfold impl_ValidRow.f
      refine Ev.bind (Ev.now _) ?_
      rw [c1, Bool.true_and] at h
      by_cases c2 : rowOkB s = true
      · refine mfp c2 ?_
        rw [hwi]
        refine Ev.bind (Ev.now _) ?_
        rw [codeOf_t]
        refine Ev.bind (Ev.now _) ?_
        rw [c2, Bool.true_and] at h
        exact h
      · refine mfn c2 ?_
        rw [hwi]
        refine Ev.bind (Ev.now _) ?_
        rw [codeOf_t]
        refine Ev.bind (Ev.now _) ?_
        rw [Bool.eq_false_iff.2 c2, Bool.false_and] at h
        exact h
    · refine mfn c1 ?_
      rw [hwi]
      refine Ev.bind (Ev.now _) ?_
      rw [codeOf_t]
      refine Ev.bind (Ev.now _) ?_
      rw [Bool.eq_false_iff.2 c1, Bool.false_and] at h
      exact h
  have hspec : ∀ o : List P2 × Int, (rowOkB s = true → s.length = r.length → Ev (fun k => spec_MissedWalks.j1 k r l a s [] (askC (rowOkB r && walkersB r.length l) (inB a 0 400))) o) → (rowOkB s = false ∨ s.length ≠ r.length → o = ([], 1)) → Ev (fun k => spec_MissedWalks.f k r l a s) o := by
    intro o h1 h2
    unfold spec_MissedWalks.f
    refine Ev.bind (Ev.now _) ?_
    refine Ev.bind (l05Ok_t s hs2) ?_
    by_cases c1 : rowOkB s = true
    · refine mfp c1 ?_
      refine Ev.step (fun k => spec_MissedWalks.j0.eq_2 _ _ _ _ _ _ k) ?_
      by_cases c2 : s.length = r.length
      · refine mfn (by simp; omega) ?_
        rw [day2_t]
        refine Ev.bind (Ev.now _) ?_
        have h := h1 c1 c2
        by_cases c3 : inB a 0 10000 = true
        · refine mfp c3 ?_
          refine Ev.bind (row_t r l hr2 hl2 _) ?_
          have e : inB a 0 400 = decide (a ≤ 400) := by
            have := inB_iff.1 c3
            unfold inB
            rw [decide_eq_true this.1, Bool.true_and]
          rw [← e]
          exact h
        · refine mfn c3 ?_
          refine Ev.bind (row_t r l hr2 hl2 _) ?_
          have e : inB a 0 400 = false := by
            rw [Bool.eq_false_iff]
            intro hh
            have := inB_iff.1 hh
            exact c3 (inB_iff.2 ⟨by omega, by omega⟩)
          rw [e] at h
          exact h
      · rw [h2 (Or.inr c2)]
        exact mfp (by simp; omega) (Ev.now _)
    · rw [h2 (Or.inl (Bool.eq_false_iff.2 c1))]
      refine mfn c1 ?_
      refine Ev.step (fun k => spec_MissedWalks.j0.eq_2 _ _ _ _ _ _ k) ?_
      exact mfp rfl (Ev.now _)
  by_cases hsok : rowOkB s = true ∧ s.length = r.length
  · obtain ⟨c1, c2⟩ := hsok
    have e : (rowOkB s && ((s.length : Int) == (r.length : Int))) = true := by rw [c1, c2]; simp
    rw [e, Bool.and_true] at himpl
    by_cases hz : askC (rowOkB r && walkersB r.length l) (inB a 0 400) = 0
    · have hh : (rowOkB r && walkersB r.length l) = true ∧ inB a 0 400 = true := by
        unfold askC at hz
        split at hz
        · split at hz
          · exact ⟨by assumption, by assumption⟩
          · cases hz
        · cases hz
      have hG := goodR_of hr hl hh.1
      have ha := inB_iff.1 hh.2
      obtain ⟨o, o1, o2, o3⟩ := missed_loops s a hG ha.1 ha.2 hs2
      refine ⟨(o, 0), o1, hspec _ (fun _ _ => ?_) (fun h => ?_), himpl _ ?_⟩
      · refine Ev.step (fun k => spec_MissedWalks.j1.eq_2 _ _ _ _ _ _ k) ?_
        refine mfp hz ?_
        have hw := whole_t hG.n.1 hG.n.2 l hG.l8 hG.good (fun i => r.getD i 0) (fun i _ => hG.seven i) a ha.1 (by omega)
        rw [← rowSelf r] at hw
        exact Ev.bind hw o2
      · rcases h with h | h
        · rw [c1] at h; cases h
        · exact absurd c2 h
      · refine Ev.step (fun k => impl_MissedWalks.j0.eq_2 _ _ _ _ _ k) ?_
        exact mfp hz o3
    · refine ⟨([], askC (rowOkB r && walkersB r.length l) (inB a 0 400)), by simp, hspec _ (fun _ _ => ?_) (fun h => ?_), himpl _ ?_⟩
      · refine Ev.step (fun k => spec_MissedWalks.j1.eq_2 _ _ _ _ _ _ k) ?_
        exact mfn hz (Ev.now _)
      · rcases h with h | h
        · rw [c1] at h; cases h
        · exact absurd c2 h
      · refine Ev.step (fun k => impl_MissedWalks.j0.eq_2 _ _ _ _ _ k) ?_
        exact mfn hz (Ev.now _)
  · have e : (rowOkB s && ((s.length : Int) == (r.length : Int))) = false := by
      rw [Bool.eq_false_iff]
      intro h
      simp only [Bool.and_eq_true, beq_iff_eq] at h
      exact hsok ⟨h.1, by omega⟩
    have e1 : askC ((rowOkB r && walkersB r.length l) && false) (inB a 0 400) = 1 := by
      rw [Bool.and_false]
      rfl
    rw [e, e1] at himpl
    refine ⟨([], 1), by simp, hspec _ (fun h1 h2 => absurd ⟨h1, h2⟩ hsok) (fun _ => rfl), himpl _ ?_⟩
    refine Ev.step (fun k => impl_MissedWalks.j0.eq_2 _ _ _ _ _ k) ?_
    exact mfn (by decide) (Ev.now _)
end LW
end Go.Proofs.Ythkifkfnlmjafaa.G
