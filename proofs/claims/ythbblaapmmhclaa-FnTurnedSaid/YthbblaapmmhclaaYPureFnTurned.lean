import Derived.Test.YthbblaapmmhclaaYSayFnTurned
import Derived.Test.YthbblaapmmhclaaYFLibDraw
import Derived.Test.YthbblaapmmhclaaYFLibSpan
namespace Go.Proofs.Ythbblaapmmhclaa.PureFnTurned
open Go.RowKit Go.Proofs.YthbblaapmmhclaaW.PrintWords Go.Proofs.Ythbblaapmmhclaa.G Go.Proofs.Ythbblaapmmhclaa.SayFnTurned Go.Proofs.Ythbblaapmmhclaa.Wk Go.Proofs.Ythbblaapmmhclaa.Pl LW
set_option linter.unusedSimpArgs false
set_option linter.unusedVariables false
structure Dr (r : List Int) (l : List W) : Prop where
  n : 1 ≤ r.length ∧ r.length ≤ 7
  seven : ∀ i : Nat, 0 ≤ r.getD i 0 ∧ r.getD i 0 ≤ 7
  l3 : l.length ≤ 3
  few : ∀ x ∈ l, Draw.FewW r.length x
theorem few_good {n : Nat} {x : W} (h : Draw.FewW n x) : GoodW n x :=
  ⟨by have := h.f0; omega, by have := h.f1; omega, h.f2, by have := h.f3; omega, by have := h.f4; omega, h.f5⟩
theorem Dr.good {r : List Int} {l : List W} (h : Dr r l) : ∀ x ∈ l, GoodW r.length x := fun x hx => few_good (h.few x hx)
theorem Dr.goodR {r : List Int} {l : List W} (h : Dr r l) : GoodR r l := ⟨by have := h.n; omega, h.seven, by have := h.l3; omega, h.good⟩
theorem Dr.rowOk {r : List Int} {l : List W} (h : Dr r l) : rowOkB r = true := by
  unfold rowOkB
  rw [inB_yes (by have := h.n; omega) (by have := h.n; omega), Bool.true_and]
  refine List.all_eq_true.2 fun x hx => ?_
  obtain ⟨i, hi, rfl⟩ := List.getElem_of_mem hx
  have := h.seven i
  rw [getD_lt hi] at this
  exact decide_eq_true this.2
theorem walkersB_yes {n : Nat} (hn : 1 ≤ n ∧ n ≤ 60) {l : List W} (hl : l.length ≤ 8) (h : ∀ x ∈ l, GoodW n x) : walkersB n l = true := by
  unfold walkersB
  rw [inB_yes (by omega) (by omega), Bool.true_and, decide_eq_true hl, Bool.true_and]
  exact List.all_eq_true.2 fun x hx => good_B (by omega) (h x hx)
theorem Dr.walk {r : List Int} {l : List W} (h : Dr r l) : walkersB r.length l = true := walkersB_yes (by have := h.n; omega) (by have := h.l3; omega) h.good
theorem one_good {n : Nat} {x : W} (h : GoodW n x) : ∀ y ∈ [x], GoodW n y := fun y hy => by rw [List.mem_singleton.1 hy]; exact h
theorem rowOnI_t {r : List Int} {l : List W} (h : Dr r l) (d : Int) (h0 : 0 ≤ d) (h1 : d ≤ 10000) : Ev (fun k => impl_RowOn.f k r l d) (behindL r l (untilW d), 0) := by
  unfold impl_RowOn.f
  simp only [rowOk_t, h.rowOk, h.walk, Bool.true_and, Option.bind_some, isDay_t, allB_one, inB_yes h0 h1, codeOf_t, askC, if_true]
  exact Ev.bind (rowOn_t h.goodR d h0 (by omega)) (Ev.now _)
theorem sameRow_t (l : List Int) (hl : l.length ≤ 1099511627776) : Ev (fun k => spec_SameRow.f k l l) true := by
  unfold spec_SameRow.f
  simp only [if_true]
  refine ev_steps (F := fun k i (_ : Unit) => spec_SameRow.l0 k l l i) 0 l.length (Nat.zero_le _) (fun _ => ()) true (fun i _ hi h => ?_) ?_
  · refine Ev.step (fun k => spec_SameRow.l0.eq_2 _ _ _ k) ?_
    simp only [if_pos (show (i : Int) < (l.length : Int) by omega), if_pos (show (0 : Int) ≤ (i : Int) by omega), if_true, w_i hi (show l.length ≤ 4611686018427387904 by omega)]
    exact h
  · refine Ev.step (fun k => spec_SameRow.l0.eq_2 _ _ _ k) ?_
    simp only [if_neg (show ¬ ((l.length : Int) < (l.length : Int)) by omega)]
    exact Ev.now _
def nz (l : List Int) : Bool := (List.range l.length).any fun j => (l.getD j 0) != 0
def ups (r : List Int) (l : List W) (a : Int) : Nat → List Int
  | 0 => []
  | j + 1 => if nz (behindL r l (untilW (a + j))) = true then ups r l a j else ups r l a j ++ [a + j]
theorem ups_len (r : List Int) (l : List W) (a : Int) : ∀ j, (ups r l a j).length ≤ j
  | 0 => by simp [ups]
  | j + 1 => by
    have := ups_len r l a j
    rw [ups]
    split
    · omega
    · simp; omega
def out (r : List Int) (l : List W) (a b : Int) : List Int × Int := if spanC (rowOkB r && walkersB r.length l) a b = 0 then (ups r l a (b - a + 1).toNat, 0) else ([], spanC (rowOkB r && walkersB r.length l) a b)
theorem impl_tells (r : List Int) (l : List W) (a b : Int) (hr : ∀ x ∈ r, 0 ≤ x ∧ x ≤ 255) (hl : ∀ x ∈ l, SmallW x) : Ev (fun k => impl_UprightDays.f k r l a b) (out r l a b) := by
  unfold impl_UprightDays.f out
  simp only [rowOk_t, Option.bind_some]
  refine Ev.bind (impl_span_t _ a b) ?_
  by_cases h : spanC (rowOkB r && walkersB r.length l) a b = 0
  · simp only [if_pos h]
    obtain ⟨hv, h1, h2, h3, h4⟩ := spanC_zero h
    have hG := goodR_of hr hl hv
    obtain ⟨m, hm⟩ := Int.eq_ofNat_of_zero_le (show 0 ≤ b - a + 1 by omega)
    rw [show (b - a + 1).toNat = m by omega]
    have key := ev_steps (F := fun k i (x : List Int) => impl_UprightDays.l0 k r l b x (a + i)) 0 m (Nat.zero_le _) (fun j => ups r l a j) (ups r l a m, (0 : Int)) (fun j _ hj hh => by
      refine Ev.step (fun k => impl_UprightDays.l0.eq_2 _ _ _ _ _ k) ?_
      have hlen := ups_len r l a j
      have hw : wrap64 (a + (j : Int) + 1) = a + ((j + 1 : Nat) : Int) := by rw [w_id (by omega) (by omega)]; omega
      simp only [if_pos (show a + (j : Int) ≤ b by omega)]
      refine Ev.bind (rowOn_t hG (a + j) (by omega) (by omega)) ?_
      simp only [contNZ.f, Option.bind_some, hw, if_pos (show (ups r l a j).length < 17592186044416 by omega)]
      have e : ups r l a (j + 1) = if nz (behindL r l (untilW (a + j))) = true then ups r l a j else ups r l a j ++ [a + j] := rfl
      rw [e] at hh
      unfold nz at hh
      cases hz : (List.range (behindL r l (untilW (a + j))).length).any fun q => ((behindL r l (untilW (a + j))).getD q 0) != 0
      · rw [hz] at hh
        simp only [Bool.false_eq_true, if_false] at hh ⊢
        exact hh
      · rw [hz] at hh
        simp only [if_true] at hh ⊢
        exact hh) (by
      refine Ev.step (fun k => impl_UprightDays.l0.eq_2 _ _ _ _ _ k) ?_
      simp only [if_neg (show ¬ a + (m : Int) ≤ b by omega)]
      exact Ev.now _)
    simpa [ups] using key
  · simp only [if_neg h]
    exact Ev.now _
theorem bt_nums (xs : List Int) (hx : ∀ x ∈ xs, 0 ≤ x ∧ x ≤ 255) (i : Nat) (hi : i < xs.length) : bt (strOfNums xs) (i : Int) = xs.getD i 0 := by
  have hs : i < (strOfNums xs).size := by rw [strOfNums_size]; exact hi
  unfold bt
  rw [dif_pos (show ((i : Int)).toNat < (strOfNums xs).size from hs)]
  have h := hx _ (List.getElem_mem hi)
  have e : (strOfNums xs)[((i : Int)).toNat]'hs = UInt8.ofNat (xs[i]'hi).toNat := by
    show (strOfNums xs).data[i] = _
    simp [strOfNums]
  rw [e, getD_lt hi]
  have : (UInt8.ofNat (xs[i]'hi).toNat).toNat = (xs[i]'hi).toNat := by
    rw [UInt8.toNat_ofNat']
    exact Nat.mod_eq_of_lt (by omega)
  rw [this]
  omega
def txt (r : List Int) : ByteArray := strOfNums (r.map fun x => 48 + x)
theorem text_t {r : List Int} {l : List W} (h : Dr r l) : Ev (fun k => impl_RowText.f k r) (txt r) := by
  unfold impl_RowText.f
  simp only [impl_ValidRow.f, h.rowOk, Option.bind_some, if_true]
  have hn := h.n
  have key := ev_steps (F := fun k i (x : List Int) => impl_RowText.l0 k x r (r.length : Int) i) 0 r.length (Nat.zero_le _) (fun j => (r.take j).map fun x => 48 + x) (txt r) (fun i _ hi hh => by
    refine Ev.step (fun k => impl_RowText.l0.eq_2 _ _ _ _ k) ?_
    have e : rd r (i : Int) = r.getD i 0 := rfl
    have h7 := h.seven i
    have hm : (48 + rd r (i : Int)) % 256 = 48 + r[i]'hi := by rw [e, getD_lt hi] ; rw [getD_lt hi] at h7; omega
    simp only [if_pos (show (i : Int) < (r.length : Int) by omega), if_pos (show (0 : Int) ≤ (i : Int) by omega), w_i hi (show r.length ≤ 4611686018427387904 by omega), hm,
      if_pos (show ((r.take i).map fun x => 48 + x).length < 140737488355328 by simp; omega)]
    have e2 : ((r.take i).map fun x => 48 + x) ++ [48 + r[i]'hi] = (r.take (i + 1)).map fun x => 48 + x := by rw [List.take_succ_eq_append_getElem hi, List.map_append]; rfl
    rw [e2]
    exact hh) (by
    refine Ev.step (fun k => impl_RowText.l0.eq_2 _ _ _ _ k) ?_
    simp only [if_neg (show ¬ ((r.length : Int) < (r.length : Int)) by omega), List.take_length]
    exact Ev.now _)
  simpa using key
theorem read_t {r : List Int} {l : List W} (h : Dr r l) : Ev (fun k => impl_ReadRow.f k (txt r)) (r, 0) := by
  unfold impl_ReadRow.f
  have hn := h.n
  have hb : ∀ x ∈ r.map (fun x => 48 + x), 0 ≤ x ∧ x ≤ 255 := fun x hx => by
    obtain ⟨y, hy, rfl⟩ := List.mem_map.1 hx
    obtain ⟨i, hi, rfl⟩ := List.getElem_of_mem hy
    have := h.seven i
    rw [getD_lt hi] at this
    omega
  have hs : (txt r).size = r.length := by unfold txt; rw [strOfNums_size, List.length_map]
  rw [hs]
  have key := ev_steps (F := fun k i (x : List Int) => impl_ReadRow.l0 k (txt r) x (r.length : Int) i) 0 r.length (Nat.zero_le _) (fun j => r.take j) (r, (0 : Int)) (fun i _ hi hh => by
    refine Ev.step (fun k => impl_ReadRow.l0.eq_2 _ _ _ _ k) ?_
    have h7 := h.seven i
    rw [getD_lt hi] at h7
    have e : bt (txt r) (i : Int) = 48 + r[i]'hi := by
      unfold txt
      rw [bt_nums _ hb i (by rw [List.length_map]; exact hi), getD_lt (by rw [List.length_map]; exact hi), List.getElem_map]
    have hm : (48 + r[i]'hi - 48) % 256 = r[i]'hi := by omega
    simp only [hs, e, hm, if_pos (show (i : Int) < (r.length : Int) by omega), if_pos (show (0 : Int) ≤ (i : Int) by omega), w_i hi (show r.length ≤ 4611686018427387904 by omega),
      if_neg (show ¬ (48 + r[i]'hi < 48) by omega), if_neg (show ¬ (48 + r[i]'hi > 55) by omega), if_pos (show (r.take i).length < 140737488355328 by simp; omega)]
    have e2 : r.take i ++ [r[i]'hi] = r.take (i + 1) := (List.take_succ_eq_append_getElem hi).symm
    rw [e2]
    exact hh) (by
    refine Ev.step (fun k => impl_ReadRow.l0.eq_2 _ _ _ _ k) ?_
    simp only [if_neg (show ¬ ((r.length : Int) < (r.length : Int)) by omega), List.take_length, impl_ValidRow.f, h.rowOk, Option.bind_some, if_true]
    exact Ev.now _)
  simpa using key
theorem same_impl (r : List Int) (hr : r.length ≤ 1000) : Ev (fun k => impl_SameRow.f k r r) true := by
  unfold impl_SameRow.f impl_Row_uint8_81.f
  simp only [if_true]
  refine Ev.bind (r := true) (ev_steps (F := fun k i (_ : Unit) => impl_Row_uint8_81.l0 k r r (r.length : Int) i) 0 r.length (Nat.zero_le _) (fun _ => ()) true (fun i _ hi h => ?_) ?_) (Ev.now _)
  · refine Ev.step (fun k => impl_Row_uint8_81.l0.eq_2 _ _ _ _ k) ?_
    simp only [if_pos (show (i : Int) < (r.length : Int) by omega), if_pos (show (0 : Int) ≤ (i : Int) by omega), if_true, w_i hi (show r.length ≤ 4611686018427387904 by omega)]
    exact h
  · refine Ev.step (fun k => impl_Row_uint8_81.l0.eq_2 _ _ _ _ k) ?_
    simp only [if_neg (show ¬ ((r.length : Int) < (r.length : Int)) by omega)]
    exact Ev.now _
theorem sameNum_t (l : List Int) (hl : l.length ≤ 100000) : Ev (fun k => spec_SameNumbers.f k l l) true := by
  unfold spec_SameNumbers.f spec_l00Same.f
  simp only [if_true]
  refine Ev.bind (r := true) (ev_steps (F := fun k i (_ : Unit) => spec_l00Same.l0 k l l i) 0 l.length (Nat.zero_le _) (fun _ => ()) true (fun i _ hi h => ?_) ?_) (Ev.now _)
  · refine Ev.step (fun k => spec_l00Same.l0.eq_2 _ _ _ k) ?_
    simp only [if_pos (show (i : Int) < (l.length : Int) by omega), if_pos (show (0 : Int) ≤ (i : Int) by omega), if_true, w_i hi (show l.length ≤ 4611686018427387904 by omega)]
    exact h
  · refine Ev.step (fun k => spec_l00Same.l0.eq_2 _ _ _ k) ?_
    simp only [if_neg (show ¬ ((l.length : Int) < (l.length : Int)) by omega)]
    exact Ev.now _
theorem rowOk_F {n : Nat} (hn : 1 ≤ n ∧ n ≤ 60) {g : Nat → Int} (hg : ∀ i, i < n → 0 ≤ g i ∧ g i ≤ 7) : rowOkB (rowF n g) = true := by
  unfold rowOkB
  rw [rowF_len, inB_yes (by omega) (by omega), Bool.true_and]
  refine List.all_eq_true.2 fun x hx => ?_
  obtain ⟨i, hi, rfl⟩ := List.mem_map.1 hx
  exact decide_eq_true (hg i (List.mem_range.1 hi)).2
theorem turn_impl {n p : Nat} (hn : 1 ≤ n ∧ n ≤ 60) (hp : p < n) {g : Nat → Int} (hg : ∀ i, i < n → 0 ≤ g i ∧ g i ≤ 7) (t : Int) (ht : -7 ≤ t ∧ t ≤ 7) :
    Ev (fun k => impl_TurnBottle.f k (rowF n g) p t) (rowF n (fun i => if i = p then (g p + t) % 8 else g i), 0) := by
  unfold impl_TurnBottle.f
  have hgp := hg p hp
  have w1 : wrap64 ((n : Int) - 1) = (n : Int) - 1 := w_id (by omega) (by omega)
  have w2 : wrap64 (g p) = g p := w_id (by omega) (by omega)
  have w3 : wrap64 (g p + t) = g p + t := w_id (by omega) (by omega)
  simp only [impl_ValidRow.f, rowOk_F hn hg, Option.bind_some, impl_within.f, rowF_len, w1, if_pos (show (0 : Int) ≤ (p : Int) by omega), decide_eq_true (show (p : Int) ≤ (n : Int) - 1 by omega), if_true, if_pos ht.1, decide_eq_true ht.2, codeOf_t, askC]
  refine Ev.step (fun k => impl_TurnBottle.j0.eq_2 _ _ _ _ k) ?_
  simp only [if_true, cloneRow.f, rowF_len, if_pos (show n ≤ 140737488355328 by omega), Option.bind_some, if_pos (show (0 : Int) ≤ (p : Int) by omega), if_pos (show (p : Int) < (n : Int) by omega), rowF_rd g hp, w2, w3, impl_eighths.f, eighth, Int.toNat_natCast, rowF_set]
  exact Ev.now _
theorem turn_spec {n p : Nat} (hn : 1 ≤ n ∧ n ≤ 60) (hp : p < n) {g : Nat → Int} (hg : ∀ i, i < n → 0 ≤ g i ∧ g i ≤ 7) (t : Int) (ht : -7 ≤ t ∧ t ≤ 7) :
    Ev (fun k => spec_TurnBottle.f k (rowF n g) p t) (rowF n (fun i => if i = p then (g p + t) % 8 else g i), 0) := by
  unfold spec_TurnBottle.f
  have hgp := hg p hp
  have w1 : wrap64 ((n : Int) - 1) = (n : Int) - 1 := w_id (by omega) (by omega)
  have w2 : wrap64 (g p) = g p := w_id (by omega) (by omega)
  have w3 : wrap64 (g p + t) = g p + t := w_id (by omega) (by omega)
  have w4 : wrap64 (g p + t + 8) = g p + t + 8 := w_id (by omega) (by omega)
  have h1 : inB (p : Int) 0 ((n : Int) - 1) = true := inB_yes (by omega) (by omega)
  have h2 : inB t (-7) 7 = true := inB_yes ht.1 ht.2
  have e : Int.tmod (g p + t + 8) 8 % 256 = (g p + t) % 8 := by rw [tmod_pos (by omega)]; omega
  have ok := l05Ok_t (rowF n g) (by rw [rowF_len]; omega)
  rw [rowOk_F hn hg] at ok
  refine Ev.bind ok ?_
  simp only [if_true, l00In_t, Option.bind_some, rowF_len, w1, h1, h2, List.length_nil, List.nil_append, if_pos (show 0 + n < 140737488355328 by omega), if_pos (show (0 : Int) ≤ (p : Int) by omega), if_pos (show (p : Int) < (n : Int) by omega), rowF_rd g hp, w2, w3, w4, e, Int.toNat_natCast, rowF_set]
  exact Ev.now _
def tb (r : List Int) (p : Nat) (t : Int) (j : Nat) : List Int := rowF r.length fun i => if i = p then (r.getD p 0 + j * t) % 8 else r.getD i 0
theorem tb_zero {r : List Int} {l : List W} (h : Dr r l) (p : Nat) (t : Int) : tb r p t 0 = r := by
  unfold tb
  rw [show r = rowF r.length fun i => r.getD i 0 from rowSelf r]
  rw [rowF_len]
  refine rowF_congr fun i hi => ?_
  have := h.seven i
  rw [rowF_get _ hi]
  by_cases e : i = p
  · subst e; rw [if_pos rfl, rowF_get _ hi]; omega
  · rw [if_neg e]
theorem tb_eight {r : List Int} {l : List W} (h : Dr r l) (p : Nat) (t : Int) : tb r p t 8 = r := by
  rw [← tb_zero h p t]
  unfold tb
  rw [rowF_len]
  refine rowF_congr fun i hi => ?_
  by_cases e : i = p
  · subst e
    rw [if_pos rfl, if_pos rfl, rowF_get _ hi, if_pos rfl]
    omega
  · rw [if_neg e, if_neg e, rowF_get _ hi, if_neg e]
theorem tb_next (r : List Int) (p : Nat) (t : Int) (j : Nat) : (rowF r.length (fun i => if i = p then ((if p = p then (r.getD p 0 + j * t) % 8 else r.getD p 0) + t) % 8 else (if i = p then (r.getD p 0 + j * t) % 8 else r.getD i 0))) = tb r p t (j + 1) := by
  unfold tb
  refine rowF_congr fun i hi => ?_
  by_cases e : i = p
  · subst e
    rw [if_pos rfl, if_pos rfl, if_pos rfl]
    have : ((j + 1 : Nat) : Int) * t = (j : Int) * t + t := by rw [Int.natCast_add, Int.add_mul]; simp
    omega
  · rw [if_neg e, if_neg e, if_neg e]
theorem between_t {n : Nat} {x : W} (h : GoodW n x) (a b : Int) (h0 : 0 ≤ a) (h1 : a ≤ b) (h2 : b ≤ 100000) : impl_Walker_between.f x.f0 x.f1 x.f2 x.f3 x.f4 x.f5 a b = some (untilW b x - untilW (a - 1) x) := by
  unfold impl_Walker_between.f
  have w1 : wrap64 (a - 1) = a - 1 := w_id (by omega) (by omega)
  have g1 := untilW_bd h b (by omega)
  have g2 : 0 ≤ untilW (a - 1) x ∧ untilW (a - 1) x ≤ a := by
    by_cases c : a - 1 < x.f0
    · unfold untilW; rw [if_pos c]; omega
    · have := untilW_bd h (a - 1) (by have := h.f0; omega); omega
  rw [w1, impl_until_t h b (by omega) (by omega), impl_until_t h (a - 1) (by omega) (by omega)]
  simp only [Option.bind_some]
  rw [w_id (by omega) (by omega)]
theorem onI_is {n : Nat} {x : W} (h : GoodW n x) (d : Int) : untilW d x - untilW (d - 1) x = onI d x := by
  have := untilW_next h (d - 1)
  rw [show d - 1 + 1 = d by omega] at this
  omega
theorem dayS_t (a : Int) : spec_l05Day.f a = some (inB a 0 10000) := by
  unfold spec_l05Day.f
  rw [l00In_t]
  rfl
def X (r : List Int) (l : List W) (j : Nat) : List Int := behindL r l (untilW ((j : Int) - 1))
theorem until_none {n : Nat} {x : W} (h : GoodW n x) : untilW (-1) x = 0 := by
  unfold untilW
  rw [if_pos (by have := h.f0; omega)]
theorem sw_zero (n : Nat) {c : W → Int} (i : Nat) : ∀ l : List W, (∀ x ∈ l, c x = 0) → sw n c i l = 0
  | [], _ => rfl
  | x :: t, h => by rw [sw, h x List.mem_cons_self, sw_zero n i t fun y hy => h y (List.mem_cons_of_mem _ hy)]; simp
theorem X_zero {r : List Int} {l : List W} (h : Dr r l) : X r l 0 = r := by
  unfold X behindL
  refine (rowF_congr fun i hi => ?_).trans (rowSelf r).symm
  have := h.seven i
  rw [show (((0 : Nat) : Int) - 1) = -1 by omega, sw_zero r.length i l fun x hx => until_none (h.good x hx)]
  omega
theorem X_len (r : List Int) (l : List W) (j : Nat) : (X r l j).length = r.length := behindL_len _ _ _
theorem X_next {r : List Int} {l : List W} (h : Dr r l) (j : Nat) : (rowF r.length fun i => ((r.getD i 0 + sw r.length (untilW ((j : Int) - 1)) i l) % 8 + sw r.length (onI j) i l) % 8) = X r l (j + 1) := by
  unfold X behindL
  refine rowF_congr fun i _ => ?_
  have h1 : sw r.length (untilW (((j + 1 : Nat) : Int) - 1)) i l = sw r.length (fun x => untilW ((j : Int) - 1) x + onI j x) i l := sw_congr _ _ l fun x hx => by
    have := untilW_next (h.good x hx) ((j : Int) - 1)
    rw [show (j : Int) - 1 + 1 = j by omega] at this
    rw [show (((j + 1 : Nat) : Int) - 1) = (j : Int) by omega]
    exact this
  rw [h1, sw_add]
  omega
theorem onI_bd (d : Int) (x : W) : 0 ≤ onI d x ∧ onI d x ≤ 1 := by unfold onI; split <;> omega
theorem day_impl {r : List Int} {l : List W} (h : Dr r l) (j : Nat) (hj : j ≤ 10000) : Ev (fun k => impl_DayOf.f k (X r l j) l j) (X r l (j + 1), 0) := by
  have hn := h.n
  have hl := h.l3
  have e0 : X r l j = rowF r.length fun i => (r.getD i 0 + sw r.length (untilW ((j : Int) - 1)) i l) % 8 := rfl
  generalize hg : (fun i => (r.getD i 0 + sw r.length (untilW ((j : Int) - 1)) i l) % 8) = g at e0
  have hgb : ∀ i, 0 ≤ g i ∧ g i ≤ 7 := fun i => by rw [← hg]; simp only; omega
  rw [e0]
  unfold impl_DayOf.f
  have hd : inB (j : Int) 0 10000 = true := inB_yes (by omega) (by omega)
  simp only [rowOk_t, rowOk_F (n := r.length) (by omega) (fun i _ => hgb i), rowF_len, h.walk, Bool.true_and, Option.bind_some, isDay_t, allB_one, hd, codeOf_t, askC, if_true]
  have hw := walked_t (rowF r.length g) l (DayOfF j j) (onI j) (by rw [rowF_len]; omega) (by omega) (by rw [rowF_len]; exact h.good) (fun i => by
      by_cases hi : i < r.length
      · rw [rowF_get _ hi]; have := hgb i; omega
      · have e : (rowF r.length g).getD i 0 = 0 := by simp [List.getD, List.getElem?_eq_none (show (rowF r.length g).length ≤ i by rw [rowF_len]; omega)]
        omega) (fun x hx => ⟨by
      show impl_Walker_between.f x.f0 x.f1 x.f2 x.f3 x.f4 x.f5 j j = _
      rw [between_t (h.good x hx) j j (by omega) (by omega) (by omega), onI_is (h.good x hx)], by have := onI_bd j x; omega, by have := onI_bd j x; omega⟩)
  refine Ev.bind hw ?_
  have e1 : behindL (rowF r.length g) l (onI j) = X r l (j + 1) := by
    rw [← X_next h j]
    unfold behindL
    rw [rowF_len]
    refine rowF_congr fun i hi => ?_
    rw [rowF_get _ hi, ← hg]
  rw [e1]
  exact Ev.now _
theorem day_spec {r : List Int} {l : List W} (h : Dr r l) (j : Nat) (hj : j ≤ 10000) : Ev (fun k => spec_DayOf.f k (X r l j) l j) (X r l (j + 1), 0) := by
  have hn := h.n
  have hl := h.l3
  have e0 : X r l j = rowF r.length fun i => (r.getD i 0 + sw r.length (untilW ((j : Int) - 1)) i l) % 8 := rfl
  unfold spec_DayOf.f
  have hd : inB (j : Int) 0 10000 = true := inB_yes (by omega) (by omega)
  have ok : rowOkB (X r l j) = true := rowOk_F (n := r.length) (by omega) (fun i _ => by omega)
  have hr := LW.row_t (X r l j) l (by rw [X_len]; omega) (by omega) true
  rw [ok, X_len, h.walk] at hr
  simp only [Bool.and_self, askC, if_true] at hr
  simp only [dayS_t, hd, Option.bind_some]
  refine Ev.bind hr ?_
  simp only [if_true]
  rw [e0]
  refine Ev.bind (behind_t (by omega) (by omega) l (by omega) h.good _ (fun i _ => by omega) j (by omega) (by omega)) ?_
  rw [X_next h j]
  exact Ev.now _
theorem days_impl {r : List Int} {l : List W} (h : Dr r l) (j : Nat) (hj : j ≤ 300) : Ev (fun k => impl_DaysOf.f k r l 0 j) (X r l (j + 1), 0) := by
  have hn := h.n
  have hl := h.l3
  unfold impl_DaysOf.f
  simp only [rowOk_t, h.rowOk, h.walk, Bool.true_and, Option.bind_some]
  refine Ev.bind (impl_span_t true 0 j) ?_
  have hs : spanC true 0 (j : Int) = 0 := by
    unfold spanC
    rw [if_pos rfl, inB_yes (by omega) (by omega), inB_yes (by omega) (by omega), decide_eq_true (show (0 : Int) ≤ j by omega)]
    simp only [Bool.and_self, if_true]
    rw [if_neg (by omega)]
  simp only [hs, if_true]
  refine Ev.bind (walked_t r l (DaysOfF 0 j) (untilW j) (by omega) (by omega) h.good (fun i => by have := h.seven i; omega) (fun x hx => ?_)) ?_
  · have hb := untilW_bd (h.good x hx) j (by omega)
    refine ⟨?_, by omega, by omega⟩
    show impl_Walker_between.f x.f0 x.f1 x.f2 x.f3 x.f4 x.f5 0 j = _
    rw [between_t (h.good x hx) 0 j (by omega) (by omega) (by omega), show (0 : Int) - 1 = -1 by omega, until_none (h.good x hx)]
    simp
  · unfold X
    rw [show (((j + 1 : Nat) : Int) - 1) = (j : Int) by omega]
    exact Ev.now _
theorem rowOn_impl {r : List Int} {l : List W} (h : Dr r l) (j : Nat) (hj : j ≤ 300) : Ev (fun k => impl_RowOn.f k r l j) (X r l (j + 1), 0) := by
  have := rowOnI_t h j (by omega) (by omega)
  unfold X
  rw [show (((j + 1 : Nat) : Int) - 1) = (j : Int) by omega]
  exact this
theorem rowOn_spec {r : List Int} {l : List W} (h : Dr r l) (j : Nat) (hj : j ≤ 300) : Ev (fun k => spec_RowOn.f k r l j) (X r l (j + 1), 0) := by
  have hn := h.n
  have hl := h.l3
  unfold spec_RowOn.f
  have hd : inB (j : Int) 0 10000 = true := inB_yes (by omega) (by omega)
  have hr := LW.row_t r l (by omega) (by omega) true
  rw [h.rowOk, h.walk] at hr
  simp only [Bool.and_self, askC, if_true] at hr
  simp only [dayS_t, hd, Option.bind_some]
  refine Ev.bind hr ?_
  simp only [if_true]
  have hw := whole_t hn.1 (by omega) l (by omega) h.good (fun i => r.getD i 0) (fun i _ => h.seven i) j (by omega) (by omega)
  rw [← rowSelf r] at hw
  refine Ev.bind hw ?_
  unfold X behindL
  rw [show (((j + 1 : Nat) : Int) - 1) = (j : Int) by omega]
  exact Ev.now _
theorem up_impl {r : List Int} {l : List W} (h : Dr r l) (j : Nat) (hj : j ≤ 300) : Ev (fun k => impl_UprightDays.f k r l 0 j) (ups r l 0 (j + 1), 0) := by
  have hn := h.n
  have := impl_tells r l 0 j (fun x hx => by
    obtain ⟨i, hi, rfl⟩ := List.getElem_of_mem hx
    have := h.seven i
    rw [getD_lt hi] at this
    omega) (fun x hx => by
    have := h.few x hx
    have g0 := this.f0; have g1 := this.f1; have g2 := this.f2; have g3 := this.f3; have g4 := this.f4; have g5 := this.f5
    unfold SmallW
    omega)
  unfold out at this
  have hs : spanC true 0 (j : Int) = 0 := by
    unfold spanC
    rw [if_pos rfl, inB_yes (by omega) (by omega), inB_yes (by omega) (by omega), decide_eq_true (show (0 : Int) ≤ j by omega)]
    simp only [Bool.and_self, if_true]
    rw [if_neg (by omega)]
  rw [h.rowOk, h.walk] at this
  simp only [Bool.and_self, hs, if_true, show ((j : Int) - 0 + 1).toNat = j + 1 by omega] at this
  exact this
def tm (n i : Nat) : List W → Int
  | [] => 0
  | x :: t => vis n x i + tm n i t
theorem tm_snoc (n i : Nat) (x : W) : ∀ l, tm n i (l ++ [x]) = tm n i l + vis n x i
  | [] => by simp [tm]
  | y :: t => by rw [List.cons_append, tm, tm, tm_snoc n i x t]; omega
theorem tm_bd {n : Nat} (i : Nat) : ∀ l : List W, (∀ x ∈ l, GoodW n x) → 0 ≤ tm n i l ∧ tm n i l ≤ 60 * l.length
  | [], _ => by simp [tm]
  | x :: t, h => by
    have h1 := vis_bd (h x List.mem_cons_self) i
    have h2 := tm_bd i t fun y hy => h y (List.mem_cons_of_mem _ hy)
    rw [tm, List.length_cons]
    omega
def never (n : Nat) (l : List W) : Nat → List Int
  | 0 => []
  | j + 1 => if tm n j l = 0 then never n l j ++ [(j : Int)] else never n l j
theorem never_len (n : Nat) (l : List W) : ∀ j, (never n l j).length ≤ j
  | 0 => by simp [never]
  | j + 1 => by
    have := never_len n l j
    rw [never]
    split
    · simp; omega
    · omega
theorem never_impl {n : Nat} (hn : 1 ≤ n ∧ n ≤ 7) {l : List W} (hl : l.length ≤ 3) (hg : ∀ x ∈ l, GoodW n x) (hw : walkersB n l = true) : Ev (fun k => impl_NeverTurned.f k n l) (never n l n, 0) := by
  unfold impl_NeverTurned.f
  simp only [impl_ValidWalkers.f, hw, Option.bind_some, if_true, if_pos (show (0 : Int) ≤ (n : Int) by omega), Int.toNat_natCast, if_pos (show n ≤ 35184372088832 by omega), rowF_rep]
  have e0 : (rowF n fun _ => (0 : Int)) = rowF n fun i => tm n i (l.take 0) := rfl
  rw [e0]
  refine ev_steps (F := fun k t (s : List Int) => impl_NeverTurned.l0 k n s [] l (l.length : Int) t) 0 l.length (Nat.zero_le _) (fun t => rowF n fun i => tm n i (l.take t)) _ (fun t _ ht hh => ?_) ?_
  · refine Ev.step (fun k => impl_NeverTurned.l0.eq_2 _ _ _ _ _ _ k) ?_
    have hx := hg l[t] (List.getElem_mem ht)
    have hrd : rd_T53 l (t : Int) = l[t] := getD_lt ht _
    simp only [hrd, if_pos (show (t : Int) < (l.length : Int) by omega), if_pos (show (0 : Int) ≤ (t : Int) by omega)]
    refine Ev.bind (impl_visits_t hn.1 (by omega) hx) ?_
    simp only [rowF_len]
    have s0 : (rowF n fun i => tm n i (l.take t)) = rowF n fun q => if q < 0 then tm n q (l.take (t + 1)) else tm n q (l.take t) := rowF_congr fun q _ => by rw [if_neg (Nat.not_lt_zero q)]
    rw [s0]
    refine ev_steps (F := fun k i (s : List Int) => impl_NeverTurned.l1 k n s [] l (l.length : Int) t (rowF n (vis n l[t])) (n : Int) i) 0 n (Nat.zero_le _) (fun i => rowF n fun q => if q < i then tm n q (l.take (t + 1)) else tm n q (l.take t)) _ (fun i _ hi hh2 => ?_) ?_
    · refine Ev.step (fun k => impl_NeverTurned.l1.eq_2 _ _ _ _ _ _ _ _ _ k) ?_
      have b1 := tm_bd i (l.take t) fun y hy => hg y (List.mem_of_mem_take hy)
      have b2 := vis_bd hx i
      have b3 : (l.take t).length ≤ 3 := by simp; omega
      have w1 : wrap64 (tm n i (l.take t) + vis n l[t] i) = tm n i (l.take t) + vis n l[t] i := w_id (by omega) (by omega)
      simp only [rowF_len, rowF_rd _ hi, if_neg (Nat.lt_irrefl i), w1, Int.toNat_natCast, rowF_set, if_pos (show (i : Int) < (n : Int) by omega), if_pos (show (0 : Int) ≤ (i : Int) by omega), w_i hi (show n ≤ 4611686018427387904 by omega)]
      have e : (rowF n fun q => if q = i then tm n i (l.take t) + vis n l[t] i else if q < i then tm n q (l.take (t + 1)) else tm n q (l.take t)) = rowF n fun q => if q < i + 1 then tm n q (l.take (t + 1)) else tm n q (l.take t) := rowF_congr fun q _ => by
        by_cases e : q = i
        · subst e
          rw [if_pos rfl, if_pos (by omega), List.take_succ_eq_append_getElem ht, tm_snoc]
        · rw [if_neg e]
          by_cases c : q < i
          · rw [if_pos c, if_pos (by omega)]
          · rw [if_neg c, if_neg (by omega)]
      rw [e]
      exact hh2
    · refine Ev.step (fun k => impl_NeverTurned.l1.eq_2 _ _ _ _ _ _ _ _ _ k) ?_
      simp only [if_neg (show ¬ ((n : Int) < (n : Int)) by omega), w_i ht (show l.length ≤ 4611686018427387904 by omega)]
      have e : (rowF n fun q => if q < n then tm n q (l.take (t + 1)) else tm n q (l.take t)) = rowF n fun i => tm n i (l.take (t + 1)) := rowF_congr fun q hq => by rw [if_pos hq]
      rw [e]
      exact hh
  · refine Ev.step (fun k => impl_NeverTurned.l0.eq_2 _ _ _ _ _ _ k) ?_
    simp only [if_neg (show ¬ ((l.length : Int) < (l.length : Int)) by omega), List.take_length, rowF_len]
    refine ev_steps (F := fun k j (s : List Int) => impl_NeverTurned.l2 k s (rowF n fun i => tm n i l) (n : Int) j) 0 n (Nat.zero_le _) (fun j => never n l j) (never n l n, (0 : Int)) (fun j _ hj hh => ?_) ?_
    · refine Ev.step (fun k => impl_NeverTurned.l2.eq_2 _ _ _ _ k) ?_
      have := never_len n l j
      simp only [rowF_len, rowF_rd _ hj, if_pos (show (j : Int) < (n : Int) by omega), if_pos (show (0 : Int) ≤ (j : Int) by omega), if_pos (show (never n l j).length < 17592186044416 by omega), w_i hj (show n ≤ 4611686018427387904 by omega)]
      rw [never] at hh
      by_cases c : tm n j l = 0
      · rw [if_pos c] at hh; simp only [if_pos c]; exact hh
      · rw [if_neg c] at hh; simp only [if_neg c]; exact hh
    · refine Ev.step (fun k => impl_NeverTurned.l2.eq_2 _ _ _ _ k) ?_
      simp only [if_neg (show ¬ ((n : Int) < (n : Int)) by omega)]
      exact Ev.now _
theorem never_spec {n : Nat} (hn : 1 ≤ n ∧ n ≤ 7) {l : List W} (hl : l.length ≤ 3) (hg : ∀ x ∈ l, GoodW n x) (hw : walkersB n l = true) : Ev (fun k => spec_NeverTurned.f k n l) (never n l n, 0) := by
  unfold spec_NeverTurned.f
  simp only [Option.bind_some]
  have ha := LW.asked_t n l (by omega) true
  rw [hw] at ha
  simp only [askC, if_true] at ha
  refine Ev.bind ha ?_
  simp only [if_true]
  refine ev_steps (F := fun k j (s : List Int) => spec_NeverTurned.l0 k n l s j) 0 n (Nat.zero_le _) (fun j => never n l j) (never n l n, (0 : Int)) (fun j _ hj hh => ?_) ?_
  · refine Ev.step (fun k => spec_NeverTurned.l0.eq_2 _ _ _ _ k) ?_
    have hlen := never_len n l j
    simp only [if_pos (show (j : Int) < (n : Int) by omega)]
    refine ev_steps (F := fun k t (s : Int) => spec_NeverTurned.l1 k n l (never n l j) j s t) 0 l.length (Nat.zero_le _) (fun t => tm n j (l.take t)) (never n l n, (0 : Int)) (fun t _ ht hh2 => ?_) ?_
    · refine Ev.step (fun k => spec_NeverTurned.l1.eq_2 _ _ _ _ _ _ k) ?_
      have hx := hg l[t] (List.getElem_mem ht)
      have hrd : rd_T53 l (t : Int) = l[t] := getD_lt ht _
      have b1 := tm_bd j (l.take t) fun y hy => hg y (List.mem_of_mem_take hy)
      have b2 := vis_bd hx j
      have b3 : (l.take t).length ≤ 3 := by simp; omega
      have w1 : wrap64 (tm n j (l.take t) + vis n l[t] j) = tm n j (l.take t) + vis n l[t] j := w_id (by omega) (by omega)
      simp only [hrd, if_pos (show (t : Int) < (l.length : Int) by omega), if_pos (show (0 : Int) ≤ (t : Int) by omega)]
      refine Ev.bind (spec_visits_t hn.1 (by omega) hx) ?_
      have e : tm n j (l.take t) + vis n l[t] j = tm n j (l.take (t + 1)) := by rw [List.take_succ_eq_append_getElem ht, tm_snoc]
      rw [e] at w1
      simp only [rowF_len, rowF_rd _ hj, if_pos (show (j : Int) < (n : Int) by omega), if_pos (show (0 : Int) ≤ (j : Int) by omega), w1, w_i ht (show l.length ≤ 4611686018427387904 by omega), e]
      exact hh2
    · refine Ev.step (fun k => spec_NeverTurned.l1.eq_2 _ _ _ _ _ _ k) ?_
      simp only [if_neg (show ¬ ((l.length : Int) < (l.length : Int)) by omega), List.take_length, if_pos (show (never n l j).length < 17592186044416 by omega), w_i hj (show n ≤ 4611686018427387904 by omega)]
      rw [never] at hh
      by_cases c : tm n j l = 0
      · rw [if_pos c] at hh; simp only [if_pos c]; exact hh
      · rw [if_neg c] at hh; simp only [if_neg c]; exact hh
  · refine Ev.step (fun k => spec_NeverTurned.l0.eq_2 _ _ _ _ k) ?_
    simp only [if_neg (show ¬ ((n : Int) < (n : Int)) by omega)]
    exact Ev.now _
theorem visits_impl {r : List Int} {l : List W} (h : Dr r l) {x : W} (hx : x ∈ l) : Ev (fun k => impl_VisitsOf.f k r.length x.f0 x.f1 x.f2 x.f3 x.f4 x.f5) (rowF r.length (vis r.length x), 0) := by
  have hn := h.n
  have hg := h.good x hx
  unfold impl_VisitsOf.f
  simp only [impl_ValidWalkers.f, walkersB_yes (n := r.length) (by omega) (l := [⟨x.f0, x.f1, x.f2, x.f3, x.f4, x.f5⟩]) (by simp) (one_good hg), Option.bind_some, if_true]
  exact Ev.bind (impl_visits_t hn.1 (by omega) hg) (Ev.now _)
theorem has_t (l : List Int) (hl : l.length ≤ 100000) (v : Int) : Ev (fun k => spec_HasNumber.f k l v) ((List.range l.length).any fun j => (l.getD j 0) == v) := by
  unfold spec_HasNumber.f spec_l00Has.f
  refine Ev.bind (r := (List.range l.length).any fun j => (l.getD j 0) == v) ?_ (Ev.now _)
  have h := ev_all (F := fun k i => spec_l00Has.l0 k l v i) l.length (fun j => !((l.getD j 0) == v)) false true (fun i hi hp r h => by
    refine Ev.step (fun k => spec_l00Has.l0.eq_2 _ _ _ k) ?_
    have e0 : rd l (i : Int) = l.getD i 0 := rfl
    have hp2 : ¬ l.getD i 0 = v := by simpa using hp
    simp only [e0, if_pos (show (i : Int) < (l.length : Int) by omega), if_pos (show (0 : Int) ≤ (i : Int) by omega), if_neg hp2, w_i hi (show l.length ≤ 4611686018427387904 by omega)]
    exact h) (fun i hi hp => by
    refine Ev.step (fun k => spec_l00Has.l0.eq_2 _ _ _ k) ?_
    have e0 : rd l (i : Int) = l.getD i 0 := rfl
    have hp2 : l.getD i 0 = v := by simpa using hp
    simp only [e0, if_pos (show (i : Int) < (l.length : Int) by omega), if_pos (show (0 : Int) ≤ (i : Int) by omega), if_pos hp2]
    exact Ev.now _) (by
    refine Ev.step (fun k => spec_l00Has.l0.eq_2 _ _ _ k) ?_
    simp only [if_neg (show ¬ ((l.length : Int) < (l.length : Int)) by omega)]
    exact Ev.now _)
  have e : (if ((List.range l.length).all fun j => !((l.getD j 0) == v)) = true then false else true) = (List.range l.length).any fun j => (l.getD j 0) == v := by
    rw [show ((List.range l.length).all fun j => !((l.getD j 0) == v)) = !((List.range l.length).any fun j => (l.getD j 0) == v) from (List.not_any_eq_all_not).symm]
    cases ((List.range l.length).any fun j => (l.getD j 0) == v) <;> rfl
  rw [← e]
  exact h
theorem never_mem (n : Nat) (l : List W) (v : Nat) : ∀ j, (v : Int) ∈ never n l j ↔ (v < j ∧ tm n v l = 0)
  | 0 => by simp [never]
  | j + 1 => by
    have ih := never_mem n l v j
    rw [never]
    by_cases c : tm n j l = 0
    · rw [if_pos c, List.mem_append, ih, List.mem_singleton]
      constructor
      · rintro (⟨h1, h2⟩ | h1)
        · exact ⟨by omega, h2⟩
        · have : v = j := by omega
          subst this; exact ⟨by omega, c⟩
      · rintro ⟨h1, h2⟩
        by_cases e : v = j
        · right; omega
        · left; exact ⟨by omega, h2⟩
    · rw [if_neg c, ih]
      constructor
      · rintro ⟨h1, h2⟩; exact ⟨by omega, h2⟩
      · rintro ⟨h1, h2⟩
        refine ⟨?_, h2⟩
        by_cases e : v = j
        · subst e; exact absurd h2 c
        · omega
theorem has_never (n : Nat) (l : List W) (v : Nat) (hv : v < n) : ((List.range (never n l n).length).any fun j => ((never n l n).getD j 0) == (v : Int)) = (tm n v l == 0) := by
  rw [Bool.eq_iff_iff, List.any_eq_true, beq_iff_eq]
  constructor
  · rintro ⟨j, hj, he⟩
    have hj := List.mem_range.1 hj
    rw [getD_lt hj, beq_iff_eq] at he
    exact ((never_mem n l v n).1 (he ▸ List.getElem_mem hj)).2
  · intro h
    obtain ⟨j, hj, he⟩ := List.getElem_of_mem ((never_mem n l v n).2 ⟨hv, h⟩)
    exact ⟨j, List.mem_range.2 hj, by rw [getD_lt hj, beq_iff_eq]; exact he⟩
theorem still {n : Nat} (c : W → Int) (i : Nat) : ∀ l : List W, (∀ x ∈ l, GoodW n x) → tm n i l = 0 → sw n c i l = 0
  | [], _, _ => rfl
  | x :: t, h, h0 => by
    have h1 := vis_bd (h x List.mem_cons_self) i
    have h2 := tm_bd i t fun y hy => h y (List.mem_cons_of_mem _ hy)
    rw [tm] at h0
    rw [sw, show vis n x i = 0 by omega, still c i t (fun y hy => h y (List.mem_cons_of_mem _ hy)) (by omega)]
    simp
theorem l3_ok {r : List Int} {l : List W} (h : Dr r l) (last : Nat) : Ev (fun k => laws_FnTurned.l3 k r r.length l (X r l (last + 1)) (never r.length l r.length) 0) true := by
  have hn := h.n
  have hl := h.l3
  refine ev_steps (F := fun k i (_ : Unit) => laws_FnTurned.l3 k r r.length l (X r l (last + 1)) (never r.length l r.length) i) 0 r.length (Nat.zero_le _) (fun _ => ()) true (fun i _ hi hh => ?_) ?_
  · refine Ev.step (fun k => laws_FnTurned.l3.eq_2 _ _ _ _ _ _ k) ?_
    simp only [if_pos (show (i : Int) < (r.length : Int) by omega)]
    refine ev_steps (F := fun k t (s : Int) => laws_FnTurned.l4 k r r.length l (X r l (last + 1)) (never r.length l r.length) i s t) 0 l.length (Nat.zero_le _) (fun t => tm r.length i (l.take t)) true (fun t _ ht hh2 => ?_) ?_
    · refine Ev.step (fun k => laws_FnTurned.l4.eq_2 _ _ _ _ _ _ _ _ k) ?_
      have hx := List.getElem_mem ht
      have hrd : rd_T53 l (t : Int) = l[t] := getD_lt ht _
      have b1 := tm_bd i (l.take t) fun y hy => h.good y (List.mem_of_mem_take hy)
      have b2 := vis_bd (h.good _ hx) i
      have b3 : (l.take t).length ≤ 3 := by simp; omega
      have w1 : wrap64 (tm r.length i (l.take t) + vis r.length l[t] i) = tm r.length i (l.take t) + vis r.length l[t] i := w_id (by omega) (by omega)
      have e : tm r.length i (l.take t) + vis r.length l[t] i = tm r.length i (l.take (t + 1)) := by rw [List.take_succ_eq_append_getElem ht, tm_snoc]
      rw [e] at w1
      simp only [hrd, if_pos (show (t : Int) < (l.length : Int) by omega), if_pos (show (0 : Int) ≤ (t : Int) by omega)]
      refine Ev.bind (visits_impl h hx) ?_
      simp only [if_true, rowF_len, rowF_rd _ hi, if_pos (show (i : Int) < (r.length : Int) by omega), if_pos (show (0 : Int) ≤ (i : Int) by omega), e, w1, w_i ht (show l.length ≤ 4611686018427387904 by omega)]
      exact hh2
    · refine Ev.step (fun k => laws_FnTurned.l4.eq_2 _ _ _ _ _ _ _ _ k) ?_
      simp only [if_neg (show ¬ ((l.length : Int) < (l.length : Int)) by omega), List.take_length]
      have hlen := never_len r.length l r.length
      have hb := has_t (never r.length l r.length) (by omega) i
      rw [has_never r.length l i hi] at hb
      refine Ev.bind hb ?_
      have hi1 := w_i hi (show r.length ≤ 4611686018427387904 by omega)
      by_cases c : tm r.length i l = 0
      · have e1 : rd (X r l (last + 1)) (i : Int) = rd r (i : Int) := by
          unfold X behindL
          rw [rowF_rd _ hi, still _ i l h.good c]
          have := h.seven i
          show _ = r.getD i 0
          omega
        simp only [c, bne_self_eq_false, Bool.false_eq_true, if_false, if_true, X_len, e1, if_pos (show (i : Int) < (r.length : Int) by omega), if_pos (show (0 : Int) ≤ (i : Int) by omega), hi1]
        exact hh
      · simp only [bne_self_eq_false, Bool.false_eq_true, if_false, if_neg c, hi1]
        exact hh
  · refine Ev.step (fun k => laws_FnTurned.l3.eq_2 _ _ _ _ _ _ k) ?_
    simp only [if_neg (show ¬ ((r.length : Int) < (r.length : Int)) by omega)]
    exact Ev.now _
theorem l2_ok {r : List Int} {l : List W} (h : Dr r l) (last d : Nat) (hd : d ≤ 100) (Y : List Int) (hY : Y.length = r.length) (U : List Int) (hU : U.length ≤ 1000)
    (hh : Ev (fun k => laws_FnTurned.l1 k r r.length l last (X r l (last + 1)) Y (if nz Y = true then U else U ++ [(d : Int)]) ((d + 1 : Nat) : Int)) true) :
    Ev (fun k => laws_FnTurned.l2 k r r.length l last (X r l (last + 1)) Y U d true 0) true := by
  have hn := h.n
  have hw : wrap64 ((d : Int) + 1) = ((d + 1 : Nat) : Int) := by rw [w_id (by omega) (by omega)]; omega
  have key := ev_steps (F := fun k i (s : Bool) => laws_FnTurned.l2 k r r.length l last (X r l (last + 1)) Y U d s i) 0 Y.length (Nat.zero_le _) (fun i => !((List.range i).any fun j => (Y.getD j 0) != 0)) true (fun i _ hi hh2 => by
    refine Ev.step (fun k => laws_FnTurned.l2.eq_2 _ _ _ _ _ _ _ _ _ _ k) ?_
    simp only [if_pos (show (i : Int) < (Y.length : Int) by omega), if_pos (show (0 : Int) ≤ (i : Int) by omega), w_i hi (show Y.length ≤ 4611686018427387904 by omega)]
    have e0 : rd Y (i : Int) = Y.getD i 0 := rfl
    rw [List.range_succ, List.any_append] at hh2
    simp only [List.any_cons, List.any_nil, Bool.or_false] at hh2
    cases c : (List.range i).any fun j => (Y.getD j 0) != 0
    · rw [c] at hh2
      simp only [Bool.not_false, if_true, e0]
      have e : (Y.getD i 0 == 0) = !(false || (Y.getD i 0 != 0)) := by
        generalize Y.getD i 0 = q
        cases hq : (q == 0) <;> simp [bne, hq]
      rw [e]
      exact hh2
    · rw [c] at hh2
      simp only [Bool.not_true, Bool.false_eq_true, if_false, Bool.true_or] at hh2 ⊢
      exact hh2) (by
    refine Ev.step (fun k => laws_FnTurned.l2.eq_2 _ _ _ _ _ _ _ _ _ _ k) ?_
    simp only [if_neg (show ¬ ((Y.length : Int) < (Y.length : Int)) by omega), hw]
    unfold nz at hh
    cases c : (List.range Y.length).any fun j => (Y.getD j 0) != 0
    · rw [c] at hh
      simp only [Bool.not_false, if_true, Bool.false_eq_true, if_false, if_pos (show U.length < 17592186044416 by omega)] at hh ⊢
      exact hh
    · rw [c] at hh
      simp only [Bool.not_true, Bool.false_eq_true, if_false, if_true] at hh ⊢
      exact hh)
  simpa using key
theorem l1_ok {r : List Int} {l : List W} (h : Dr r l) (last : Nat) (hlast : last ≤ 39) : Ev (fun k => laws_FnTurned.l1 k r r.length l last (X r l (last + 1)) r [] 0) true := by
  have hn := h.n
  have hl := h.l3
  have key := ev_steps (F := fun k d (s : List Int × List Int) => laws_FnTurned.l1 k r r.length l last (X r l (last + 1)) s.1 s.2 d) 0 (last + 1) (Nat.zero_le _) (fun d => (X r l d, ups r l 0 d)) true (fun d _ hd hh => by
    refine Ev.step (fun k => laws_FnTurned.l1.eq_2 _ _ _ _ _ _ _ _ k) ?_
    simp only [if_pos (show (d : Int) ≤ (last : Int) by omega)]
    refine Ev.bind (day_impl h d (by omega)) ?_
    refine Ev.bind (day_spec h d (by omega)) ?_
    simp only [if_true]
    refine Ev.bind (sameRow_t (X r l (d + 1)) (by rw [X_len]; omega)) ?_
    simp only [Bool.not_true]
    refine Ev.step (fun k => laws_FnTurned.j5.eq_2 _ _ _ _ _ _ _ _ _ k) ?_
    simp only [Bool.false_eq_true, if_false]
    have hu := ups_len r l 0 d
    refine l2_ok h last d (by omega) (X r l (d + 1)) (X_len _ _ _) (ups r l 0 d) (by omega) ?_
    have e : ups r l 0 (d + 1) = if nz (X r l (d + 1)) = true then ups r l 0 d else ups r l 0 d ++ [(d : Int)] := by
      unfold X
      rw [ups, show (0 : Int) + (d : Int) = (d : Int) by omega, show (((d + 1 : Nat) : Int) - 1) = (d : Int) by omega]
    simp only at hh
    rw [e] at hh
    exact hh) (by
    refine Ev.step (fun k => laws_FnTurned.l1.eq_2 _ _ _ _ _ _ _ _ k) ?_
    simp only [if_neg (show ¬ (((last + 1 : Nat) : Int) ≤ (last : Int)) by omega)]
    refine Ev.bind (up_impl h last (by omega)) ?_
    refine Ev.bind (never_impl hn hl h.good h.walk) ?_
    refine Ev.bind (never_spec hn hl h.good h.walk) ?_
    refine Ev.bind (sameRow_t (X r l (last + 1)) (by rw [X_len]; omega)) ?_
    simp only [if_true]
    have hu := ups_len r l 0 (last + 1)
    have hv := never_len r.length l r.length
    refine Ev.bind (sameNum_t (ups r l 0 (last + 1)) (by omega)) ?_
    simp only [if_true]
    refine Ev.bind (sameNum_t (never r.length l r.length) (by omega)) ?_
    simp only [Bool.not_true]
    refine Ev.step (fun k => laws_FnTurned.j7.eq_2 _ _ _ _ _ _ k) ?_
    simp only [Bool.false_eq_true, if_false]
    exact l3_ok h last)
  simp only [X_zero h, ups] at key
  exact key
theorem l0_ok {r : List Int} {l : List W} (h : Dr r l) (a : List Int) (ha : Draw.CodeOk a) (p : Nat) (hp : p < r.length) (t : Int) (ht : -7 ≤ t ∧ t ≤ 7) : Ev (fun k => laws_FnTurned.l0 k a r r.length l p t r 0) true := by
  have hn := h.n
  have hl := h.l3
  have key := ev_steps (F := fun k j (s : List Int) => laws_FnTurned.l0 k a r r.length l p t s j) 0 8 (Nat.zero_le _) (fun j => tb r p t j) true (fun j _ hj hh => by
    refine Ev.step (fun k => laws_FnTurned.l0.eq_2 _ _ _ _ _ _ _ _ k) ?_
    have hg : ∀ i, i < r.length → 0 ≤ (if i = p then (r.getD p 0 + j * t) % 8 else r.getD i 0) ∧ (if i = p then (r.getD p 0 + j * t) % 8 else r.getD i 0) ≤ 7 := fun i _ => by
      have := h.seven i
      split
      · omega
      · omega
    have e1 := turn_impl (n := r.length) (by omega) hp hg t ht
    have e2 := turn_spec (n := r.length) (by omega) hp hg t ht
    rw [tb_next] at e1 e2
    simp only [if_pos (show (j : Int) < 8 by omega)]
    refine Ev.bind e1 ?_
    refine Ev.bind e2 ?_
    simp only [if_true]
    have e3 : (tb r p t (j + 1)).length = r.length := rowF_len _ _
    refine Ev.bind (sameRow_t (tb r p t (j + 1)) (by rw [e3]; omega)) ?_
    simp only [if_true, w_i hj (show 8 ≤ 4611686018427387904 by omega)]
    exact hh) (by
    refine Ev.step (fun k => laws_FnTurned.l0.eq_2 _ _ _ _ _ _ _ _ k) ?_
    obtain ⟨v, ev, v0, v1⟩ := Draw.p6pick_t ha 40
    obtain ⟨last, rfl⟩ := Int.eq_ofNat_of_zero_le v0
    simp only [if_neg (show ¬ (((8 : Nat) : Int) < 8) by omega), ev, Option.bind_some]
    rw [tb_eight h p t]
    refine Ev.bind (rowOn_impl h last (by omega)) ?_
    refine Ev.bind (rowOn_spec h last (by omega)) ?_
    refine Ev.bind (days_impl h last (by omega)) ?_
    refine Ev.bind (sameRow_t r (by omega)) ?_
    simp only [if_true]
    refine Ev.bind (sameRow_t (X r l (last + 1)) (by rw [X_len]; omega)) ?_
    simp only [if_true]
    refine Ev.bind (sameRow_t (X r l (last + 1)) (by rw [X_len]; omega)) ?_
    simp only [Bool.not_true]
    refine Ev.step (fun k => laws_FnTurned.j3.eq_2 _ _ _ _ _ _ k) ?_
    simp only [Bool.false_eq_true, if_false]
    exact l1_ok h last (by omega))
  simp only [tb_zero h p t] at key
  exact key
theorem FnTurned : SayFnTurned.Pure := by
  intro a b _ ca _ cb
  refine Ev.rounds (?_ : Ev (fun k => laws_FnTurned.f k a b) true)
  have hca : Draw.CodeOk a := fun x hx => ca x hx
  have hcb : Draw.CodeOk b := fun x hx => cb x hx
  have j0t : Ev (fun k => laws_FnTurned.j0 k a b true) true := by
    refine Ev.step (fun k => laws_FnTurned.j0.eq_2 _ _ _ k) ?_
    simp only [if_true]
    exact Ev.now _
  have j0f : Ev (fun k => laws_FnTurned.j0 k a b false) true := by
    refine Ev.step (fun k => laws_FnTurned.j0.eq_2 _ _ _ k) ?_
    simp only [Bool.false_eq_true, if_false]
    obtain ⟨r, hr, hr7, er⟩ := Draw.row_t hca
    obtain ⟨l, hl, hf, el⟩ := Draw.walkers_t hcb r.length (by omega) (by omega)
    have h : Dr r l := ⟨hr, fun i => by
      by_cases hi : i < r.length
      · rw [getD_lt hi]; exact hr7 _ (List.getElem_mem hi)
      · have e : r.getD i 0 = 0 := by simp [List.getD, List.getElem?_eq_none (show r.length ≤ i by omega)]
        omega, hl, hf⟩
    refine Ev.bind er (Ev.bind el ?_)
    refine Ev.bind (text_t h) ?_
    refine Ev.bind (read_t h) ?_
    obtain ⟨v, ev, v0, v1⟩ := Draw.p6pick_t hcb r.length
    obtain ⟨p, rfl⟩ := Int.eq_ofNat_of_zero_le v0
    obtain ⟨u, eu, u0, u1⟩ := Draw.p6pick_t hca 15
    have hw : wrap64 (u - 7) = u - 7 := w_id (by omega) (by omega)
    simp only [ev, eu, Option.bind_some, if_true, hw]
    refine Ev.bind (sameRow_t r (by omega)) ?_
    simp only [if_true]
    refine Ev.bind (same_impl r (by omega)) ?_
    simp only [if_true, impl_ValidRow.f, h.rowOk, Option.bind_some, impl_ValidWalkers.f, h.walk, Bool.not_true]
    refine Ev.step (fun k => laws_FnTurned.j1.eq_2 _ _ _ _ _ _ _ k) ?_
    simp only [Bool.false_eq_true, if_false]
    exact l0_ok h a hca p (by omega) (u - 7) (by omega)
  unfold laws_FnTurned.f laws_f6big.f
  simp only [Option.bind_some]
  by_cases c1 : decide ((a.length : Int) > 4096) = true
  · simp only [if_pos c1]
    exact j0t
  · simp only [if_neg c1]
    cases decide ((b.length : Int) > 4096)
    · exact j0f
    · exact j0t
end Go.Proofs.Ythbblaapmmhclaa.PureFnTurned
