import Derived.Test.YtbhcdefemmpkpaaZSayFnFollows
import Derived.Test.YtbhcdefemmpkpaaZFLibDraw
import Derived.Test.YtbhcdefemmpkpaaZFLibDisc
import Derived.Test.YtbhcdefemmpkpaaZFLibSame
namespace Go.Proofs.Ytbhcdefemmpkpaa.PureFnFollows
open Go.RowKit Go.Proofs.YtbhcdefemmpkpaaW.PrintWords Go.Proofs.Ytbhcdefemmpkpaa.G Go.Proofs.Ytbhcdefemmpkpaa.SayFnFollows Go.Proofs.Ytbhcdefemmpkpaa.Wk Go.Proofs.Ytbhcdefemmpkpaa.Pl Disc Rev
set_option linter.unusedSimpArgs false
set_option linter.unusedVariables false
abbrev zB : S44 := z44
def due (s : Nat) : List (List Int) := match spec_FollowOrders.f 300 s with
  | some x => x.1
  | none => []
def tab (s : Nat) : List (List Int) := match spec_FollowsOf.f 400 s (due s) with
  | some x => x.1
  | none => []
def tm (s : Nat) : Int := if Int.tmod (s : Int) 2 = 1 then 2 else 1
def chk (s : Nat) : Bool :=
  decide (spec_FollowOrders.f 300 s = some (due s, 0)) && decide (impl_FollowOrders.f 300 s = some (due s, 0)) && decide (impl_IsBalanced.f 400 s (due s) = some (true, 0))
  && decide (impl_FollowsOf.f 400 s (due s) = some (tab s, 0)) && decide (spec_FollowsOf.f 400 s (due s) = some (tab s, 0))
  && decide (spec_SameTables.f 300 (due s) (due s) = some true) && decide (spec_SameTables.f 300 (tab s) (tab s) = some true)
  && decide ((due s).length ≠ 0) && decide ((due s).length ≤ 100) && decide ((tab s).length = s)
  && ((List.range (due s).length).all fun i => decide (impl_IsOrder.f s (rd_L2 (due s) (i : Int)) = some true))
  && ((List.range s).all fun i => decide ((rd_L2 (tab s) (i : Int)).length = s) && (List.range s).all fun j => decide (rd (rd_L2 (tab s) (i : Int)) (j : Int) = if i = j then 0 else tm s))
theorem chk_all : ((List.range 8).all fun s => chk (s + 1)) = true := by decide +kernel
structure Facts (s : Nat) : Prop where
  g1 : Ev (fun k => spec_FollowOrders.f k s) (due s, 0)
  g2 : Ev (fun k => impl_FollowOrders.f k s) (due s, 0)
  g3 : Ev (fun k => impl_IsBalanced.f k s (due s)) (true, 0)
  g4 : Ev (fun k => impl_FollowsOf.f k s (due s)) (tab s, 0)
  g5 : Ev (fun k => spec_FollowsOf.f k s (due s)) (tab s, 0)
  g6 : Ev (fun k => spec_SameTables.f k (due s) (due s)) true
  g7 : Ev (fun k => spec_SameTables.f k (tab s) (tab s)) true
  l1 : (due s).length ≠ 0
  l2 : (due s).length ≤ 100
  l3 : (tab s).length = s
  o : ∀ i : Nat, i < (due s).length → impl_IsOrder.f s (rd_L2 (due s) (i : Int)) = some true
  t : ∀ i : Nat, i < s → (rd_L2 (tab s) (i : Int)).length = s ∧ ∀ j : Nat, j < s → rd (rd_L2 (tab s) (i : Int)) (j : Int) = if i = j then 0 else tm s
theorem facts {s : Nat} (h1 : 1 ≤ s) (h8 : s ≤ 8) : Facts s := by
  have h := List.all_eq_true.1 chk_all (s - 1) (List.mem_range.2 (by omega))
  rw [show s - 1 + 1 = s by omega] at h
  unfold chk at h
  simp only [Bool.and_eq_true, decide_eq_true_eq] at h
  obtain ⟨⟨⟨⟨⟨⟨⟨⟨⟨⟨⟨c1, c2⟩, c3⟩, c4⟩, c5⟩, c6⟩, c7⟩, c8⟩, c9⟩, c10⟩, c11⟩, c12⟩ := h
  refine ⟨Ev.of (fun k => spec_FollowOrders.mono _ k) c1, Ev.of (fun k => impl_FollowOrders.mono _ k) c2, Ev.of (fun k => impl_IsBalanced.mono _ _ k) c3, Ev.of (fun k => impl_FollowsOf.mono _ _ k) c4, Ev.of (fun k => spec_FollowsOf.mono _ _ k) c5, Ev.of (fun k => spec_SameTables.mono _ _ k) c6, Ev.of (fun k => spec_SameTables.mono _ _ k) c7, c8, c9, c10, fun i hi => ?_, fun i hi => ?_⟩
  · exact of_decide_eq_true (List.all_eq_true.1 c11 i (List.mem_range.2 hi))
  · have := List.all_eq_true.1 c12 i (List.mem_range.2 hi)
    rw [Bool.and_eq_true, decide_eq_true_eq] at this
    exact ⟨this.1, fun j hj => of_decide_eq_true (List.all_eq_true.1 this.2 j (List.mem_range.2 hj))⟩
theorem tables_ok {s : Nat} (h1 : 1 ≤ s) (h8 : s ≤ 8) (h : Facts s) (a b : List Int) (rest : Ev (fun k => laws_FnFollows.l1 k a b s (tab s) (tm s) s) true) : Ev (fun k => laws_FnFollows.j1 k a b s (due s) (tab s) false) true := by
  refine Ev.step (fun k => laws_FnFollows.j1.eq_2 _ _ _ _ _ _ k) ?_
  simp only [Bool.false_eq_true, if_false]
  have hl2 := h.l2
  refine ev_steps (F := fun k i (_ : Unit) => laws_FnFollows.l0 k a b s (due s) (tab s) i) 0 (due s).length (Nat.zero_le _) (fun _ => ()) true (fun i _ hi hh => ?_) ?_
  · refine Ev.step (fun k => laws_FnFollows.l0.eq_2 _ _ _ _ _ _ k) ?_
    simp only [if_pos (show (i : Int) < ((due s).length : Int) by omega), if_pos (show (0 : Int) ≤ (i : Int) by omega), h.o i hi, Option.bind_some, if_true, w_i hi (show (due s).length ≤ 4611686018427387904 by omega)]
    exact hh
  · refine Ev.step (fun k => laws_FnFollows.l0.eq_2 _ _ _ _ _ _ k) ?_
    simp only [if_neg (show ¬ (((due s).length : Int) < ((due s).length : Int)) by omega)]
    have hj : Ev (fun k => laws_FnFollows.j3 k a b s (tab s) (tm s)) true := by
      refine Ev.step (fun k => laws_FnFollows.j3.eq_2 _ _ _ _ _ k) ?_
      refine ev_steps (F := fun k i (_ : Unit) => laws_FnFollows.l1 k a b s (tab s) (tm s) i) 0 s (Nat.zero_le _) (fun _ => ()) true (fun i _ hi hh => ?_) rest
      refine Ev.step (fun k => laws_FnFollows.l1.eq_2 _ _ _ _ _ _ k) ?_
      simp only [if_pos (show (i : Int) < (s : Int) by omega)]
      obtain ⟨t1, t2⟩ := h.t i hi
      have hl3 := h.l3
      refine ev_steps (F := fun k j (_ : Unit) => laws_FnFollows.l2 k a b s (tab s) (tm s) i j) 0 s (Nat.zero_le _) (fun _ => ()) true (fun j _ hj hg => ?_) ?_
      · refine Ev.step (fun k => laws_FnFollows.l2.eq_2 _ _ _ _ _ _ _ k) ?_
        have e := t2 j hj
        by_cases c : i = j
        · subst c
          rw [if_pos rfl] at e
          simp only [hl3, t1, e, if_true, if_pos (show (i : Int) < (s : Int) by omega), if_pos (show (0 : Int) ≤ (i : Int) by omega), w_i hi (show s ≤ 4611686018427387904 by omega)]
          exact hg
        · rw [if_neg c] at e
          simp only [hl3, t1, e, if_true, if_neg (show ¬ (i : Int) = (j : Int) by omega), if_pos (show (i : Int) < (s : Int) by omega), if_pos (show (j : Int) < (s : Int) by omega), if_pos (show (0 : Int) ≤ (i : Int) by omega), if_pos (show (0 : Int) ≤ (j : Int) by omega), w_i hj (show s ≤ 4611686018427387904 by omega)]
          exact hg
      · refine Ev.step (fun k => laws_FnFollows.l2.eq_2 _ _ _ _ _ _ _ k) ?_
        simp only [if_neg (show ¬ ((s : Int) < (s : Int)) by omega), w_i hi (show s ≤ 4611686018427387904 by omega)]
        exact hh
    unfold tm at hj
    by_cases c : Int.tmod (s : Int) 2 = 1
    · simp only [if_pos c] at hj ⊢
      exact hj
    · simp only [if_neg c] at hj ⊢
      exact hj
def steps : List Int := [1, 7, 11, 77, 899, 13]
theorem step_in {t : Int} (h0 : 0 ≤ t) (h1 : t < 6) : rd steps t = 1 ∨ rd steps t = 7 ∨ rd steps t = 11 ∨ rd steps t = 77 ∨ rd steps t = 899 ∨ rd steps t = 13 := by
  obtain rfl | rfl | rfl | rfl | rfl | rfl : t = 0 ∨ t = 1 ∨ t = 2 ∨ t = 3 ∨ t = 4 ∨ t = 5 := by omega
  all_goals decide
def IsSt (st : Int) : Prop := st = 1 ∨ st = 7 ∨ st = 11 ∨ st = 77 ∨ st = 899 ∨ st = 13
theorem chkB : (steps.all fun st => decide (impl_multiple.f 20 st 900 = some (wrap64 (900 * st))) && decide (spec_l05Common.f 20 900 st = some 1)) = true := by decide +kernel
theorem multiples {st : Int} (h : IsSt st) : Ev (fun k => impl_multiple.f k st 900) (wrap64 (900 * st)) ∧ Ev (fun k => spec_l05Common.f k 900 st) 1 := by
  have hm : st ∈ steps := by
    unfold steps
    simp only [List.mem_cons, List.not_mem_nil, or_false]
    unfold IsSt at h
    omega
  have h2 := List.all_eq_true.1 chkB st hm
  rw [Bool.and_eq_true, decide_eq_true_eq, decide_eq_true_eq] at h2
  exact ⟨Ev.of (fun k => impl_multiple.mono _ _ k) h2.1, Ev.of (fun k => spec_l05Common.mono _ _ k) h2.2⟩
def nm (st f : Int) (j : Nat) : Int := 100 + (f + j * st) % 900
def nums (st f : Int) (n : Nat) : List Int := (List.range n).map fun j => nm st f j
theorem nums_length (st f : Int) (n : Nat) : (nums st f n).length = n := by simp [nums]
theorem nums_succ (st f : Int) (n : Nat) : nums st f (n + 1) = nums st f n ++ [nm st f n] := by simp [nums, List.range_succ]
theorem nums_at (st f : Int) {n j : Nat} (h : j < n) : (nums st f n).getD j 0 = nm st f j := by simp [nums, List.getD, h]
theorem nm_bd (st f : Int) (j : Nat) : 100 ≤ nm st f j ∧ nm st f j ≤ 999 := by unfold nm; omega
theorem nm_ne {st : Int} (h : IsSt st) (f : Int) {i j : Nat} (hij : i < j) (hj : j < 8) : nm st f i ≠ nm st f j := by
  unfold nm
  obtain rfl | rfl | rfl | rfl | rfl | rfl := h
  all_goals omega
theorem nums_nodup {st : Int} (h : IsSt st) (f : Int) {s : Nat} (hs : s ≤ 8) : (nums st f s).Nodup := by
  refine List.pairwise_iff_getElem.2 fun i j hi hj hij => ?_
  rw [nums_length] at hi hj
  have := nm_ne h f hij (show j < 8 by omega)
  rw [← nums_at st f hi, ← nums_at st f hj] at this
  rw [getD_lt (by rw [nums_length]; exact hi), getD_lt (by rw [nums_length]; exact hj)] at this
  exact this
theorem nm_step {st f : Int} (h : IsSt st) (hf : 0 ≤ f ∧ f < 900) {i : Nat} (hi : i < 8) : wrap64 (100 + (Int.tmod (wrap64 (f + (wrap64 ((i : Int) * st)))) 900)) = nm st f i := by
  have hst : 1 ≤ st ∧ st ≤ 899 := by unfold IsSt at h; omega
  have h1 : (0 : Int) ≤ (i : Int) * st := Int.mul_nonneg (by omega) (by omega)
  have h2 : (i : Int) * st ≤ 7 * 899 := Int.mul_le_mul (by omega) (by omega) (by omega) (by omega)
  unfold nm
  rw [w_id (x := (i : Int) * st) (by omega) (by omega), w_id (x := f + (i : Int) * st) (by omega) (by omega), Int.tmod_eq_emod_of_nonneg (by omega), w_id (by omega) (by omega)]
theorem blind {st f : Int} (h : IsSt st) (hf : 0 ≤ f ∧ f < 900) {s : Nat} (h1 : 1 ≤ s) (h8 : s ≤ 8) : Ev (fun k => impl_BlindNumbers.f k s st f) (nums st f s, 0) ∧ Ev (fun k => spec_BlindNumbers.f k s st f) (nums st f s, 0) := by
  have hst : 1 ≤ st ∧ st ≤ 899 := by unfold IsSt at h; omega
  obtain ⟨m1, m2⟩ := multiples h
  constructor
  · unfold impl_BlindNumbers.f
    simp only [Disc.samples_t, within_tells2, Option.bind_some, inB_yes (show (1 : Int) ≤ s by omega) (show (s : Int) ≤ 8 by omega), inB_yes hst.1 hst.2, inB_yes hf.1 (show f ≤ 899 by omega), if_true, Bool.not_true]
    refine Ev.step (fun k => impl_BlindNumbers.j0.eq_2 _ _ _ _ k) ?_
    simp only [Bool.false_eq_true, if_false]
    refine Ev.bind m1 ?_
    simp only [if_true]
    refine ev_steps (F := fun k i x => impl_BlindNumbers.l0 k st f x s i) 0 s (Nat.zero_le _) (fun i => nums st f i) (nums st f s, 0) (fun i _ hi hh => ?_) ?_
    · refine Ev.step (fun k => impl_BlindNumbers.l0.eq_2 _ _ _ _ _ k) ?_
      simp only [if_pos (show (i : Int) < (s : Int) by omega), nums_length, if_pos (show i < 17592186044416 by omega), nm_step h hf (show i < 8 by omega), ← nums_succ, w_i hi (show s ≤ 4611686018427387904 by omega)]
      exact hh
    · refine Ev.step (fun k => impl_BlindNumbers.l0.eq_2 _ _ _ _ _ k) ?_
      simp only [if_neg (show ¬ ((s : Int) < (s : Int)) by omega)]
      exact Ev.now _
  · unfold spec_BlindNumbers.f spec_l07Samples.f
    simp only [l00In_tells2, Option.bind_some, inB_yes (show (1 : Int) ≤ s by omega) (show (s : Int) ≤ 8 by omega), inB_yes hst.1 hst.2, inB_yes hf.1 (show f ≤ 899 by omega), if_true, Bool.not_true]
    refine Ev.step (fun k => spec_BlindNumbers.j0.eq_2 _ _ _ _ _ k) ?_
    simp only [Bool.false_eq_true, if_false]
    refine Ev.bind m2 ?_
    simp only [if_neg (show ¬ ((1 : Int) > 1) by omega)]
    refine ev_steps (F := fun k i x => spec_BlindNumbers.l0 k s st f x i) 0 s (Nat.zero_le _) (fun i => nums st f i) (nums st f s, 0) (fun i _ hi hh => ?_) ?_
    · refine Ev.step (fun k => spec_BlindNumbers.l0.eq_2 _ _ _ _ _ k) ?_
      simp only [if_pos (show (i : Int) < (s : Int) by omega), nums_length, if_pos (show i < 17592186044416 by omega), nm_step h hf (show i < 8 by omega), ← nums_succ, w_i hi (show s ≤ 4611686018427387904 by omega)]
      exact hh
    · refine Ev.step (fun k => spec_BlindNumbers.l0.eq_2 _ _ _ _ _ k) ?_
      simp only [if_neg (show ¬ ((s : Int) < (s : Int)) by omega)]
      exact Ev.now _
def bt (j : Nat) : B := ⟨(wrap64 ((j : Int) + 1)) % 256, 2000⟩
def bots (n : Nat) : List B := (List.range n).map bt
theorem bots_length (n : Nat) : (bots n).length = n := by simp [bots]
theorem bots_succ (n : Nat) : bots (n + 1) = bots n ++ [bt n] := by simp [bots, List.range_succ]
theorem bots_ok {n : Nat} (hn : n ≤ 8) : (bots n).all bB = true := by
  refine List.all_eq_true.2 fun x hx => ?_
  unfold bots at hx
  obtain ⟨j, hj, rfl⟩ := List.mem_map.1 hx
  have hj := List.mem_range.1 hj
  unfold bB bt bottleB
  rw [w_id (x := (j : Int) + 1) (by omega) (by omega), w_id (x := ((j : Int) + 1) % 256) (by omega) (by omega), w_id (x := 2000) (by omega) (by omega), inB_yes (by omega) (by omega), inB_yes (by omega) (by omega)]
  rfl
def shown (N : List Int) (a : List Int) : List Int := a.map fun x => N.getD x.toNat 0
theorem rev_all {N : List Int} (hn : N.Nodup) (b : List B) : ∀ (a : List Int) (o : List B), (∀ x ∈ a, 0 ≤ x ∧ x < N.length) → rev N b (shown N a) o = (o ++ a.map fun x => b.getD x.toNat zB, 0)
  | [], o, _ => by simp [shown, rev]
  | x :: a, o, h => by
    have hx := h x (List.mem_cons_self)
    have ih := rev_all hn b a (o ++ [b.getD x.toNat zB]) fun y hy => h y (List.mem_cons_of_mem _ hy)
    unfold shown at ih ⊢
    rw [List.map_cons, rev, idx_nodup hn (show x.toNat < N.length by omega), if_neg (by omega), Int.toNat_natCast, ih]
    simp
theorem reveal {st f : Int} (h : IsSt st) {s : Nat} (h1 : 1 ≤ s) (h8 : s ≤ 8) {a : List Int} (ha : Ord s a) : impl_RevealOrder.f (nums st f s) (shown (nums st f s) a) (bots s) = some (a.map fun x => (bots s).getD x.toNat zB, 0) := by
  have hn := nums_nodup h f h8
  have hsl : (shown (nums st f s) a).length = s := by unfold shown; rw [List.length_map, ha.len]
  have hd : dup (nums st f s) = false := by
    have := RevPlain.dup_all (nums st f s)
    rw [(RevPlain.nodup_all _).1 hn] at this
    exact this
  have hc : code (nums st f s) (bots s) = 0 := by
    unfold code
    rw [if_pos (bots_ok h8), nums_length, if_pos (inB_yes (by omega) (by omega)), hd, if_neg Bool.false_ne_true, if_pos (bots_length s)]
  unfold impl_RevealOrder.f
  rw [nums_length, hsl, bots_length, if_pos (by omega)]
  unfold out
  rw [hc, if_pos rfl, hsl, if_neg (by omega), rev_all hn (bots s) a [] fun x hx => by rw [nums_length]; exact iota_mem.1 (ha.perm.mem_iff.1 hx)]
  rfl
theorem end_ok {st f : Int} (h : IsSt st) {s : Nat} (h1 : 1 ≤ s) (h8 : s ≤ 8) {a : List Int} (ha : Ord s a) : Ev (fun k => laws_FnFollows.j7 k s a (nums st f s) false) true := by
  refine Ev.step (fun k => laws_FnFollows.j7.eq_2 _ _ _ _ k) ?_
  simp only [Bool.false_eq_true, if_false]
  have hn := nums_nodup h f h8
  have hal := ha.len
  refine ev_steps (F := fun k i (x : List B × List Int) => laws_FnFollows.l3 k s a (nums st f s) x.1 x.2 i) 0 s (Nat.zero_le _) (fun i => (bots i, shown (nums st f s) (a.take i))) true (fun i _ hi hh => ?_) ?_
  · refine Ev.step (fun k => laws_FnFollows.l3.eq_2 _ _ _ _ _ _ k) ?_
    have hr : rd (nums st f s) (i : Int) = nm st f i := nums_at st f hi
    have hb := nm_bd st f i
    have hx := ha.at hi
    have hra : rd a (i : Int) = a.getD i 0 := rfl
    have hrn : rd (nums st f s) (a.getD i 0) = (nums st f s).getD (a.getD i 0).toNat 0 := rfl
    have hH : Ev (fun k => spec_HasNumber.f k ((nums st f s).take i) (nm st f i)) false := by
      unfold spec_HasNumber.f
      refine Ev.bind (has_tells _ _ (by rw [List.length_take, nums_length]; omega)) ?_
      have := List.all_eq_true.1 ((RevPlain.nodup_all _).1 hn) i (List.mem_range.2 (by rw [nums_length]; exact hi))
      rw [nums_at st f hi, Bool.not_eq_true'] at this
      rw [this]
      exact Ev.now _
    have hsl : (shown (nums st f s) (a.take i)).length = i := by unfold shown; rw [List.length_map, List.length_take, hal]; omega
    have hs1 : shown (nums st f s) (a.take i) ++ [(nums st f s).getD (a.getD i 0).toNat 0] = shown (nums st f s) (a.take (i + 1)) := by
      unfold shown
      rw [List.take_succ_eq_append_getElem (by omega), List.map_append, ← getD_lt (show i < a.length by omega) 0]
      rfl
    have hb1 : bots i ++ [(⟨((i + 1 : Nat) : Int) % 256, 2000⟩ : S44)] = bots (i + 1) := by rw [bots_succ, bt, w_i hi (show s ≤ 4611686018427387904 by omega)]
    simp only [hr, hra, hrn, hal, nums_length, bots_length, hsl, Int.toNat_natCast, if_pos (show (i : Int) < (s : Int) by omega), if_pos (show (0 : Int) ≤ (i : Int) by omega), if_neg (show ¬ nm st f i < 100 by omega), if_neg (show ¬ nm st f i > 999 by omega), if_pos (show (i : Int) ≤ (s : Int) by omega)]
    refine Ev.bind hH ?_
    simp only [Bool.false_eq_true, if_false, if_pos (show i < 35184372088832 by omega), if_pos (show i < 17592186044416 by omega), if_pos hx.1, if_pos hx.2, hs1, w_i hi (show s ≤ 4611686018427387904 by omega)]
    rw [hb1]
    exact hh
  · refine Ev.step (fun k => laws_FnFollows.l3.eq_2 _ _ _ _ _ _ k) ?_
    have hres : (a.map fun x => (bots s).getD x.toNat zB).length = s := by rw [List.length_map, hal]
    simp only [if_neg (show ¬ ((s : Int) < (s : Int)) by omega), show a.take s = a from List.take_of_length_le (by omega), reveal h h1 h8 ha, Option.bind_some, if_true, hres, bne_self_eq_false]
    refine Ev.step (fun k => laws_FnFollows.j9.eq_2 _ _ _ _ _ k) ?_
    simp only [Bool.false_eq_true, if_false]
    refine ev_steps (F := fun k i (_ : Unit) => laws_FnFollows.l4 k s a (bots s) (a.map fun x => (bots s).getD x.toNat zB) i) 0 s (Nat.zero_le _) (fun _ => ()) true (fun i _ hi hh => ?_) ?_
    · refine Ev.step (fun k => laws_FnFollows.l4.eq_2 _ _ _ _ _ k) ?_
      have hx := ha.at hi
      have hra : rd a (i : Int) = a.getD i 0 := rfl
      have e1 : rd_T44 (a.map fun x => (bots s).getD x.toNat zB) (i : Int) = (bots s).getD (a.getD i 0).toNat zB := by
        show (a.map fun x => (bots s).getD x.toNat zB).getD i zB = _
        rw [getD_lt (by omega), List.getElem_map, getD_lt (show i < a.length by omega) 0]
      have e2 : rd_T44 (bots s) (a.getD i 0) = (bots s).getD (a.getD i 0).toNat zB := rfl
      simp only [hra, hal, hres, bots_length, e1, e2, beq_self_eq_true, Bool.not_true, Bool.or_self, Bool.false_eq_true, if_false, if_pos (show (i : Int) < (s : Int) by omega), if_pos (show (0 : Int) ≤ (i : Int) by omega), if_pos hx.1, if_pos hx.2, w_i hi (show s ≤ 4611686018427387904 by omega)]
      exact hh
    · refine Ev.step (fun k => laws_FnFollows.l4.eq_2 _ _ _ _ _ k) ?_
      simp only [if_neg (show ¬ ((s : Int) < (s : Int)) by omega)]
      exact Ev.now _
theorem rest_ok {s : Nat} (h1 : 1 ≤ s) (h8 : s ≤ 8) {a b : List Int} (ca : Draw.CodeOk a) (cb : Draw.CodeOk b) : Ev (fun k => laws_FnFollows.l1 k a b s (tab s) (tm s) s) true := by
  refine Ev.step (fun k => laws_FnFollows.l1.eq_2 _ _ _ _ _ _ k) ?_
  simp only [if_neg (show ¬ ((s : Int) < (s : Int)) by omega)]
  obtain ⟨o, ho, eo⟩ := order_t ca s h8
  obtain ⟨p, hp, ep⟩ := order_t cb s h8
  refine Ev.bind eo (Ev.bind ep ?_)
  refine Ev.bind (impl_disc h1 h8 ho hp) (Ev.bind (spec_disc h1 h8 ho hp) (Ev.bind (impl_disc h1 h8 hp ho) (Ev.bind (impl_disc h1 h8 ho ho) ?_)))
  have hbd := D_bd o p s
  rw [tri s h8] at hbd
  simp only [D_symm hp ho, D_self ho, if_true, if_neg (show ¬ D o p s < 0 by omega), decide_eq_false (show ¬ D o p s > wrap64 (Int.tdiv (wrap64 ((s : Int) * (wrap64 ((s : Int) - 1)))) 2) by omega)]
  refine Ev.step (fun k => laws_FnFollows.j6.eq_2 _ _ _ _ _ k) ?_
  simp only [Bool.false_eq_true, if_false, Option.bind_some]
  obtain ⟨t, et, ht0, ht1⟩ := Draw.p6pick_t cb 6
  obtain ⟨f, ef, hf0, hf1⟩ := Draw.p6pick_t ca 900
  have hst : IsSt (rd steps t) := step_in ht0 (by omega)
  obtain ⟨b1, b2⟩ := blind hst (show 0 ≤ f ∧ f < 900 by omega) h1 h8
  have hsl : steps.length = 6 := rfl
  simp only [show ([1, 7, 11, 77, 899, 13] : List Int) = steps from rfl, et, ef, Option.bind_some, hsl, if_pos ht0, if_pos (show t < ((6 : Nat) : Int) by omega)]
  refine Ev.bind b1 (Ev.bind b2 ?_)
  simp only [if_true]
  refine Ev.bind (Same.numbers (nums (rd steps t) f s) (by rw [nums_length]; omega)) ?_
  simp only [if_true, nums_length, bne_self_eq_false]
  exact end_ok hst h1 h8 ho
theorem FnFollows : SayFnFollows.Pure := by
  intro a b ha ca hb cb
  refine Ev.rounds (?_ : Ev (fun k => laws_FnFollows.f k a b) true)
  have j0t : Ev (fun k => laws_FnFollows.j0 k a b true) true := by
    refine Ev.step (fun k => laws_FnFollows.j0.eq_2 _ _ _ k) ?_
    simp only [if_true]
    exact Ev.now _
  have j0f : Ev (fun k => laws_FnFollows.j0 k a b false) true := by
    refine Ev.step (fun k => laws_FnFollows.j0.eq_2 _ _ _ k) ?_
    obtain ⟨v, ev, hv0, hv1⟩ := Draw.p6pick_t ca 8
    obtain ⟨s, hs⟩ : ∃ s : Nat, 1 + v = s := ⟨(1 + v).toNat, by omega⟩
    have h1 : 1 ≤ s := by omega
    have h8 : s ≤ 8 := by omega
    have F := facts h1 h8
    simp only [Bool.false_eq_true, if_false, ev, Option.bind_some, hs, w_id (x := (s : Int)) (by omega) (by omega)]
    refine Ev.bind F.g2 (Ev.bind F.g1 (Ev.bind F.g3 (Ev.bind F.g4 (Ev.bind F.g5 ?_))))
    simp only [if_true]
    refine Ev.bind F.g6 ?_
    simp only [if_true]
    refine Ev.bind F.g7 ?_
    have hl1 := F.l1
    simp only [if_true, if_neg (show ¬ (((due s).length : Int) = 0) by omega), F.l3, bne_self_eq_false]
    exact tables_ok h1 h8 F a b (rest_ok h1 h8 ca cb)
  unfold laws_FnFollows.f laws_f6big.f
  simp only [Option.bind_some]
  by_cases c1 : decide ((a.length : Int) > 4096) = true
  · simp only [if_pos c1]
    exact j0t
  · simp only [if_neg c1]
    cases decide ((b.length : Int) > 4096)
    · exact j0f
    · exact j0t
end Go.Proofs.Ytbhcdefemmpkpaa.PureFnFollows
