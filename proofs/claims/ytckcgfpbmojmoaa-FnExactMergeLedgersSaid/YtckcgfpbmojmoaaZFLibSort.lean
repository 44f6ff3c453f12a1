import Derived.Test.YtckcgfpbmojmoaaZPl
import Derived.Test.YtckcgfpbmojmoaaZG6
import Derived.Test.YtckcgfpbmojmoaaZG5
import Derived.Test.YtckcgfpbmojmoaaZG4
import Derived.Test.YtckcgfpbmojmoaaZG3
namespace Go.Proofs.Ytckcgfpbmojmoaa.G
open Go.RowKit Go.Proofs.YtckcgfpbmojmoaaW.PrintWords Go.Proofs.YtckcgfpbmojmoaaW.PrintLast Go.Proofs.YtckcgfpbmojmoaaW.PrintMore
attribute [local go_sem] max2_int min2_int max_two min_two max_three min_three max_four min_four
set_option linter.unusedVariables false
set_option linter.unusedSimpArgs false
open Go.Proofs.Ytckcgfpbmojmoaa.Wk Go.Proofs.Ytckcgfpbmojmoaa.Pl
namespace SortL
abbrev E := S40
def So (l : List E) : Prop := l.Pairwise (fun a b => a.f0 ≤ b.f0)
def Sd (l m : List E) : Prop := l.length = m.length ∧ ∀ d : Int, l.filter (fun e => e.f0 == d) = m.filter (fun e => e.f0 == d)
def Sm (l : List E) : Prop := ∀ e ∈ l, -32768 ≤ e.f0 ∧ e.f0 ≤ 32767
theorem Sd.refl (l : List E) : Sd l l := ⟨rfl, fun _ => rfl⟩
theorem Sd.symm {l m : List E} (h : Sd l m) : Sd m l := ⟨h.1.symm, fun d => (h.2 d).symm⟩
theorem Sd.trans {l m n : List E} (h : Sd l m) (h2 : Sd m n) : Sd l n := ⟨h.1.trans h2.1, fun d => (h.2 d).trans (h2.2 d)⟩
theorem Sd.app {l l' m m' : List E} (h : Sd l l') (h2 : Sd m m') : Sd (l ++ m) (l' ++ m') := ⟨by simp [h.1, h2.1], fun d => by rw [List.filter_append, List.filter_append, h.2 d, h2.2 d]⟩
theorem Sd.mem {l m : List E} (h : Sd l m) {e : E} (he : e ∈ l) : e ∈ m := by
  have h1 : e ∈ l.filter (fun x => x.f0 == e.f0) := List.mem_filter.2 ⟨he, by simp⟩
  rw [h.2 e.f0] at h1
  exact (List.mem_filter.1 h1).1
theorem Sd.small {l m : List E} (h : Sd l m) (hs : Sm m) : Sm l := fun e he => hs e (h.mem he)
theorem Sd.swap {l m : List E} (h : ∀ y ∈ l, ∀ z ∈ m, y.f0 ≠ z.f0) : Sd (l ++ m) (m ++ l) := by
  refine ⟨by simp [Nat.add_comm], fun d => ?_⟩
  rw [List.filter_append, List.filter_append]
  by_cases hd : ∃ y ∈ l, y.f0 = d
  · obtain ⟨y, hy, rfl⟩ := hd
    have : m.filter (fun e => e.f0 == y.f0) = [] := List.filter_eq_nil_iff.2 fun z hz he => h y hy z hz (eq_of_beq he).symm
    rw [this]; simp
  · have : l.filter (fun e => e.f0 == d) = [] := List.filter_eq_nil_iff.2 fun z hz he => hd ⟨z, hz, eq_of_beq he⟩
    rw [this]; simp
theorem Sm.app {l m : List E} (h : Sm l) (h2 : Sm m) : Sm (l ++ m) := fun e he => (List.mem_append.1 he).elim (h e) (h2 e)
theorem Sm.left {l m : List E} (h : Sm (l ++ m)) : Sm l := fun e he => h e (List.mem_append_left _ he)
theorem Sm.right {l m : List E} (h : Sm (l ++ m)) : Sm m := fun e he => h e (List.mem_append_right _ he)
theorem rd_at (P : List E) (a : E) (S : List E) (i : Int) (h : i = (P.length : Int)) : rd_T40 (P ++ a :: S) i = a := by
  subst h; simp [rd_T40]
theorem set_at (P : List E) (a b : E) (S : List E) (n : Nat) (h : n = P.length) : (P ++ a :: S).set n b = P ++ b :: S := by
  subst h; simp
theorem cmp_t (x y : E) (hx : -32768 ≤ x.f0 ∧ x.f0 ≤ 32767) (hy : -32768 ≤ y.f0 ∧ y.f0 ≤ 32767) : laws_eqEntry.f x.f0 x.f1 x.f2 x.f3 x.f4 y.f0 y.f1 y.f2 y.f3 y.f4 = some (x.f0 - y.f0) := by
  unfold laws_eqEntry.f
  congr 1
  unfold wrap64
  omega
theorem swap2 (Q : List E) (u e : E) (V : List E) (i j : Nat) (hj : j = Q.length + 1) (hi : i = Q.length) : ((Q ++ u :: e :: V).set j u).set i e = Q ++ e :: u :: V := by
  subst hi hj
  have : Q ++ u :: e :: V = (Q ++ [u]) ++ e :: V := by simp
  rw [this, set_at (Q ++ [u]) e u V _ (by simp)]
  have : (Q ++ [u]) ++ u :: V = Q ++ u :: (u :: V) := by simp
  rw [this, set_at Q u e _ _ rfl]
theorem rd_2 (Q : List E) (u e : E) (V : List E) (j : Int) (hj : j = (Q.length : Int) + 1) : rd_T40 (Q ++ u :: e :: V) j = e := by
  have : Q ++ u :: e :: V = (Q ++ [u]) ++ e :: V := by simp
  rw [this]
  exact rd_at _ _ _ _ (by simp [hj])
theorem ins_step (k : Nat) (Q : List E) (u e : E) (V : List E) (a b i j : Int) (hj : j = (Q.length : Int) + 1) (ha : a < j) (hl : Q.length + V.length < 1000000) (hu : -32768 ≤ u.f0 ∧ u.f0 ≤ 32767) (he : -32768 ≤ e.f0 ∧ e.f0 ≤ 32767) :
    impl_Entry_74.l1 (k + 1) (Q ++ u :: e :: V) a b i j = if e.f0 < u.f0 then impl_Entry_74.l1 k (Q ++ e :: u :: V) a b i (j - 1) else impl_Entry_74.l0 k (Q ++ u :: e :: V) a b (wrap64 (i + 1)) := by
  have hw : wrap64 (j - 1) = j - 1 := by unfold wrap64; omega
  have hlen : ((Q ++ u :: e :: V).length : Int) = Q.length + V.length + 2 := by simp; omega
  simp only [impl_Entry_74.l1, hw]
  rw [if_pos ha, if_pos (by omega), if_pos (by omega), if_pos (by omega), if_pos (by omega), rd_2 Q u e V j hj, rd_at Q u (e :: V) (j - 1) (by omega), cmp_t e u he hu, Option.bind_some]
  by_cases h : e.f0 < u.f0
  · rw [if_pos (by omega), if_pos h]
    congr 1
    exact swap2 Q u e V _ _ (by omega) (by omega)
  · rw [if_neg (by omega), if_neg h]
theorem ins_in (P : List E) (b i : Int) (e : E) (he : -32768 ≤ e.f0 ∧ e.f0 ≤ 32767) : ∀ (n : Nat) (U V : List E), U.length = n → Sm U → P.length + U.length + V.length < 900000 →
    ∃ U1 U2, U = U1 ++ U2 ∧ (∀ y ∈ U2, e.f0 < y.f0) ∧ (∀ y, U1.getLast? = some y → y.f0 ≤ e.f0) ∧
      ∀ r, Ev (fun k => impl_Entry_74.l0 k (P ++ (U1 ++ e :: (U2 ++ V))) (P.length : Int) b (wrap64 (i + 1))) r → Ev (fun k => impl_Entry_74.l1 k (P ++ (U ++ e :: V)) (P.length : Int) b i ((P.length + U.length : Nat) : Int)) r := by
  intro n
  induction n with
  | zero =>
    intro U V hU _ _
    obtain rfl := List.length_eq_zero_iff.1 hU
    refine ⟨[], [], rfl, by simp, by simp, fun r h => ?_⟩
    refine Ev.step (fun k => ?_) h
    simp only [impl_Entry_74.l1]
    rw [if_neg (by simp)]
    simp
  | succ n ih =>
    intro U V hU hS hl
    obtain ⟨U', u, rfl⟩ : ∃ U' u, U = U' ++ [u] := ⟨U.dropLast, U.getLast (by intro h; simp [h] at hU), (List.dropLast_concat_getLast _).symm⟩
    have hU' : U'.length = n := by simpa using hU
    have hu := hS u (by simp)
    simp only [List.length_append, List.length_singleton] at hl
    have hx : P ++ (U' ++ [u] ++ e :: V) = (P ++ U') ++ u :: e :: V := by simp
    have st := fun k => ins_step k (P ++ U') u e V (P.length : Int) b i ((P.length + (U' ++ [u]).length : Nat) : Int) (by simp; omega) (by simp; omega) (by simp; omega) hu he
    by_cases hc : e.f0 < u.f0
    · obtain ⟨U1, U2, h1, h2, h3, h4⟩ := ih U' (u :: V) hU' hS.left (by simp; omega)
      refine ⟨U1, U2 ++ [u], by rw [h1]; simp, ?_, h3, fun r h => ?_⟩
      · intro y hy
        rcases List.mem_append.1 hy with hy | hy
        · exact h2 y hy
        · obtain rfl := List.mem_singleton.1 hy
          exact hc
      · have h5 := h4 r (by simpa using h)
        refine Ev.step (fun k => ?_) h5
        rw [hx, st k, if_pos hc]
        congr 1
        · simp
        · simp; omega
    · refine ⟨U' ++ [u], [], by simp, by simp, ?_, fun r h => ?_⟩
      · intro y hy
        simp at hy
        subst hy; omega
      · refine Ev.step (fun k => ?_) h
        rw [hx, st k, if_neg hc]
        simp
theorem So.ins {U1 U2 : List E} {e : E} (h : So (U1 ++ U2)) (h2 : ∀ y ∈ U2, e.f0 < y.f0) (h1 : ∀ y, U1.getLast? = some y → y.f0 ≤ e.f0) : So (U1 ++ e :: U2) := by
  obtain ⟨ha, hb, hc⟩ := List.pairwise_append.1 h
  refine List.pairwise_append.2 ⟨ha, List.pairwise_cons.2 ⟨fun y hy => Int.le_of_lt (h2 y hy), hb⟩, fun x hx y hy => ?_⟩
  have hxe : x.f0 ≤ e.f0 := by
    have hne : U1 ≠ [] := fun h => by simp [h] at hx
    have hl := h1 (U1.getLast hne) (List.getLast?_eq_some_getLast hne)
    rw [← List.dropLast_concat_getLast hne] at hx ha
    rcases List.mem_append.1 hx with hx | hx
    · exact Int.le_trans ((List.pairwise_append.1 ha).2.2 x hx _ (by simp)) hl
    · obtain rfl := List.mem_singleton.1 hx
      exact hl
  rcases List.mem_cons.1 hy with rfl | hy
  · exact hxe
  · exact hc x hx y hy
theorem ins_out (P S : List E) (r0 : Nat) : ∀ (n : Nat) (M L : List E), L.length = n → So M → Sm (M ++ L) → P.length + M.length + L.length + S.length < 800000 →
    ∃ M', So M' ∧ Sd M' (M ++ L) ∧ Ev (fun k => impl_Entry_74.l0 k (P ++ (M ++ (L ++ S))) (P.length : Int) ((P.length + M.length + L.length : Nat) : Int) ((P.length + M.length : Nat) : Int)) (P ++ (M' ++ S)) := by
  intro n
  induction n with
  | zero =>
    intro M L hL hM _ _
    obtain rfl := List.length_eq_zero_iff.1 hL
    refine ⟨M, hM, by simpa using Sd.refl M, ?_⟩
    refine Ev.step (f := fun _ => some (P ++ (M ++ S))) (fun k => ?_) (Ev.now _)
    simp only [impl_Entry_74.l0]
    rw [if_neg (by simp)]
    simp
  | succ n ih =>
    intro M L hL hM hS hl
    obtain ⟨e, L', rfl⟩ : ∃ e L', L = e :: L' := by cases L with | nil => simp at hL | cons e L' => exact ⟨e, L', rfl⟩
    simp only [List.length_cons] at hL hl
    have he := hS e (by simp)
    obtain ⟨U1, U2, h1, h2, h3, h4⟩ := ins_in P ((P.length + M.length + (e :: L').length : Nat) : Int) ((P.length + M.length : Nat) : Int) e he M.length M (L' ++ S) rfl hS.left (by simp; omega)
    have hM1 : So (U1 ++ e :: U2) := So.ins (h1 ▸ hM) h2 h3
    have hsd : Sd (U1 ++ e :: U2) (M ++ [e]) := by
      rw [h1, List.append_assoc]
      refine Sd.app (Sd.refl _) ?_
      exact Sd.swap (l := [e]) (m := U2) fun y hy z hz hyz => by
        obtain rfl := List.mem_singleton.1 hy
        have := h2 z hz
        omega
    have hsm : Sm (U1 ++ e :: U2 ++ L') := by
      intro y hy
      rcases List.mem_append.1 hy with hy | hy
      · have := hsd.mem hy
        exact hS y (by simp at this ⊢; rcases this with h | h <;> simp [h])
      · exact hS y (by simp [hy])
    have hlen : (U1 ++ e :: U2).length = M.length + 1 := by rw [hsd.1]; simp
    obtain ⟨M', g1, g2, g3⟩ := ih (U1 ++ e :: U2) L' (by omega) hM1 hsm (by rw [hlen]; omega)
    refine ⟨M', g1, g2.trans (by have := hsd.app (Sd.refl L'); simpa using this), ?_⟩
    refine Ev.step (f := fun k => impl_Entry_74.l1 k (P ++ (M ++ e :: (L' ++ S))) (P.length : Int) ((P.length + M.length + (e :: L').length : Nat) : Int) ((P.length + M.length : Nat) : Int) ((P.length + M.length : Nat) : Int)) (fun k => ?_) (h4 _ ?_)
    · simp only [impl_Entry_74.l0]
      rw [if_pos (by simp only [List.length_cons]; omega)]
      simp
    · have hw : wrap64 (((P.length + M.length : Nat) : Int) + 1) = ((P.length + (U1 ++ e :: U2).length : Nat) : Int) := by rw [hlen]; unfold wrap64; omega
      rw [hw]
      have hb : ((P.length + M.length + (e :: L').length : Nat) : Int) = ((P.length + (U1 ++ e :: U2).length + L'.length : Nat) : Int) := by rw [hlen]; simp; omega
      rw [hb]
      have hx : P ++ (U1 ++ e :: (U2 ++ (L' ++ S))) = P ++ (U1 ++ e :: U2 ++ (L' ++ S)) := by simp
      rw [hx]
      exact g3
theorem ins_t (P L S : List E) (hS : Sm L) (hl : P.length + L.length + S.length < 700000) :
    ∃ M, So M ∧ Sd M L ∧ Ev (fun k => impl_Entry_74.f k (P ++ (L ++ S)) (P.length : Int) ((P.length + L.length : Nat) : Int)) (P ++ (M ++ S)) := by
  have hw : wrap64 ((P.length : Int) + 1) = ((P.length + 1 : Nat) : Int) := by unfold wrap64; omega
  cases L with
  | nil =>
    refine ⟨[], List.Pairwise.nil, Sd.refl _, Ev.step (f := fun _ => some (P ++ ([] ++ S))) (g := fun k => impl_Entry_74.f k (P ++ ([] ++ S)) (P.length : Int) ((P.length + ([] : List E).length : Nat) : Int)) (fun k => ?_) (Ev.now _)⟩
    simp only [impl_Entry_74.f, hw, impl_Entry_74.l0]
    rw [if_neg (by simp; omega)]
  | cons e L =>
    simp only [List.length_cons] at hl
    obtain ⟨M, h1, h2, h3⟩ := ins_out P S 0 L.length [e] L rfl (List.pairwise_singleton _ _) (by simpa using hS) (by simp; omega)
    refine ⟨M, h1, by simpa using h2, ?_⟩
    simp only [impl_Entry_74.f, hw]
    have hb : ((P.length + (e :: L).length : Nat) : Int) = ((P.length + [e].length + L.length : Nat) : Int) := by simp; omega
    rw [hb]
    simpa using h3
end SortL
end Go.Proofs.Ytckcgfpbmojmoaa.G
