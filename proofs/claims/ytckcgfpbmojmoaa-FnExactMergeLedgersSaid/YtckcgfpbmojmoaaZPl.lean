import Derived.Test.YtckcgfpbmojmoaaZWWords
import Derived.Test.YtckcgfpbmojmoaaZWMore
import Derived.Test.YtckcgfpbmojmoaaZWk
namespace Go.Proofs.Ytckcgfpbmojmoaa.Pl
open Go.RowKit Go.Proofs.YtckcgfpbmojmoaaW.PrintWords Go.Proofs.Ytckcgfpbmojmoaa.Wk
set_option linter.unusedVariables false
set_option linter.unusedSimpArgs false
theorem w_i {i n : Nat} (h : i < n) (hn : n ≤ 4611686018427387904) : wrap64 ((i : Int) + 1) = ((i + 1 : Nat) : Int) := by unfold wrap64; omega
theorem w_id {x : Int} (h0 : -9223372036854775808 ≤ x) (h1 : x ≤ 9223372036854775807) : wrap64 x = x := by unfold wrap64; omega
theorem run_loop {σ ρ : Type} {F : Nat → Int → σ → Option ρ} {n : Nat} (hn : n ≤ 4611686018427387904) (st : Nat → σ) (r : Option ρ)
    (hstep : ∀ k (i : Nat), i < n → F (k + 1) i (st i) = F k (wrap64 ((i : Int) + 1)) (st (i + 1))) (hend : ∀ k, F (k + 1) n (st n) = r) : ∀ k, n < k → F k 0 (st 0) = r := by
  have key : ∀ d k (i : Nat), i + d = n → d < k → F k i (st i) = r := by
    intro d
    induction d with
    | zero =>
      intro k i hi hk
      obtain ⟨k, rfl⟩ : ∃ m, k = m + 1 := ⟨k - 1, by omega⟩
      obtain rfl : i = n := by omega
      exact hend k
    | succ d ih =>
      intro k i hi hk
      obtain ⟨k, rfl⟩ : ∃ m, k = m + 1 := ⟨k - 1, by omega⟩
      rw [hstep k i (by omega), w_i (by omega : i < n) hn]
      exact ih k (i + 1) (by omega) (by omega)
  intro k hk
  exact key n k 0 (by omega) hk
theorem ev_of {α : Type} {g : Nat → Option α} {r : α} {n : Nat} (h : ∀ k, n < k → g k = some r) : Ev g r := ⟨n + 1, fun k hk => h k (by omega)⟩
theorem getD_set_self {α : Type} {l : List α} {i : Nat} (h : i < l.length) (v z : α) : (l.set i v).getD i z = v := by simp [List.getD, h]
theorem getD_lt {α : Type} {l : List α} {i : Nat} (h : i < l.length) (z : α) : l.getD i z = l[i] := by simp [List.getD, h]
theorem set_step {α : Type} (g : Nat → α) (n i : Nat) (h : i < n) (x : α) (l : List α) (hl : l.length = n) : (((List.range i).map g) ++ l.drop i).set i (g i) = ((List.range (i + 1)).map g) ++ l.drop (i + 1) := by
  apply List.ext_getElem?
  intro j
  by_cases hj : j = i
  · subst hj
    rw [List.getElem?_set_self (by simp; omega), List.getElem?_append_left (by simp)]
    simp
  · rw [List.getElem?_set_ne (Ne.symm hj)]
    by_cases hlt : j < i
    · rw [List.getElem?_append_left (by simpa using hlt), List.getElem?_append_left (by simp; omega)]
      simp [hlt, Nat.lt_succ_of_lt hlt]
    · rw [List.getElem?_append_right (by simp; omega), List.getElem?_append_right (by simp; omega)]
      simp
      congr 1
      omega
theorem fill_loop {α : Type} {F : Nat → Int → List α → Option (List α)} {l : List α} (hn : l.length ≤ 4611686018427387904) (g : Nat → α)
    (hstep : ∀ k (i : Nat) (x : List α), x.length = l.length → i < l.length → F (k + 1) i x = F k (wrap64 ((i : Int) + 1)) (x.set i (g i))) (hend : ∀ k (x : List α), x.length = l.length → F (k + 1) l.length x = some x) :
    ∀ k, l.length < k → F k 0 l = some ((List.range l.length).map g) := by
  intro k hk
  have := run_loop (F := F) hn (fun i => ((List.range i).map g) ++ l.drop i) (some ((List.range l.length).map g)) (fun k i hi => by
    rw [hstep k i _ (by simp; omega) hi, set_step g l.length i hi (g i) l rfl]) (fun k => by
    rw [hend k _ (by simp)]; simp) k hk
  simpa using this
theorem map_range {α β : Type} (l : List α) (z : α) (f : α → β) : (List.range l.length).map (fun j => f (l.getD j z)) = l.map f := by
  apply List.ext_getElem?
  intro j
  by_cases hj : j < l.length
  · simp [hj, List.getD]
  · simp [hj]
def cnt (q : Int) (c : Nat) (j : Nat) : Int := q + (c * j : Nat)
theorem cnt_zero (q : Int) (c : Nat) : cnt q c 0 = q := by simp [cnt]
theorem cnt_succ (q : Int) (c j : Nat) : cnt q c (j + 1) = cnt q c j + c := by simp [cnt, Nat.mul_add]; omega
theorem mark_loop {α : Type} {F : Nat → List α → Int → Int → Option (Int × List α)} {l : List α} {c : Nat} {q : Int} (mk : Int → α) (hn : l.length ≤ 1099511627776) (hc : c ≤ 1024) (hq : 0 ≤ q) (hq2 : q ≤ 1152921504606846976)
    (hstep : ∀ k (i : Nat) (x : List α) (p : Int), 0 ≤ p → p ≤ 4611686018427387904 → i < x.length → F (k + 1) x p i = F k (x.set i (mk p)) (p + c) (wrap64 ((i : Int) + 1)))
    (hend : ∀ k (x : List α) p, F (k + 1) x p x.length = some (p, x)) : ∀ k, l.length < k → F k l q 0 = some (cnt q c l.length, (List.range l.length).map fun j => mk (cnt q c j)) := by
  intro k hk
  have hb : ∀ i, i ≤ l.length → 0 ≤ cnt q c i ∧ cnt q c i ≤ 4611686018427387904 := by
    intro i hi
    have h1 : c * i ≤ 1024 * 1099511627776 := Nat.mul_le_mul hc (Nat.le_trans hi hn)
    unfold cnt
    omega
  have := run_loop (F := fun k i (s : List α × Int) => F k s.1 s.2 i) (n := l.length) (by omega) (fun i => (((List.range i).map fun j => mk (cnt q c j)) ++ l.drop i, cnt q c i)) (some (cnt q c l.length, (List.range l.length).map fun j => mk (cnt q c j))) (fun k i hi => by
    show F (k + 1) _ _ _ = F k _ _ _
    have h2 := hb i (by omega)
    rw [hstep k i _ _ h2.1 h2.2 (by simp; omega), set_step (fun j => mk (cnt q c j)) l.length i hi (mk 0) l rfl, ← cnt_succ]) (fun k => by
    show F (k + 1) _ _ _ = _
    have h3 := hend k (((List.range l.length).map fun j => mk (cnt q c j)) ++ l.drop l.length) (cnt q c l.length)
    simpa using h3) k hk
  simpa [cnt_zero] using this
theorem held_loop {α : Type} {G : Nat → List α → Int → Int → Option Int} {n : Nat} {c : Nat} {q : Int} (mk : Int → α) (hn : n ≤ 1099511627776) (hc : c ≤ 1024) (hq : 0 ≤ q) (hq2 : q ≤ 1152921504606846976)
    (hstep : ∀ k (i : Nat) (x : List α) (p : Int), 0 ≤ p → p ≤ 4611686018427387904 → (h : i < x.length) → x[i] = mk p → G (k + 1) x p i = G k x (p + c) (wrap64 ((i : Int) + 1)))
    (hend : ∀ k (x : List α) p, G (k + 1) x p x.length = some p) : ∀ k, n < k → G k ((List.range n).map fun j => mk (cnt q c j)) q 0 = some (cnt q c n) := by
  intro k hk
  have hb : ∀ i, i ≤ n → 0 ≤ cnt q c i ∧ cnt q c i ≤ 4611686018427387904 := by
    intro i hi
    have h1 : c * i ≤ 1024 * 1099511627776 := Nat.mul_le_mul hc (Nat.le_trans hi hn)
    unfold cnt
    omega
  have := run_loop (F := fun k i (p : Int) => G k ((List.range n).map fun j => mk (cnt q c j)) p i) (n := n) (by omega) (fun i => cnt q c i) (some (cnt q c n)) (fun k i hi => by
    show G (k + 1) _ _ _ = G k _ _ _
    have h2 := hb i (by omega)
    rw [hstep k i _ _ h2.1 h2.2 (by simpa using hi) (by simp), cnt_succ]) (fun k => by
    show G (k + 1) _ _ _ = _
    have h3 := hend k ((List.range n).map fun j => mk (cnt q c j)) (cnt q c n)
    simpa using h3) k hk
  simpa [cnt_zero] using this
theorem eq_loop {α : Type} {F : Nat → List α → List α → Int → Option Bool} {l : List α} (hn : l.length ≤ 4611686018427387904)
    (hstep : ∀ k (i : Nat), i < l.length → F (k + 1) l l i = F k l l (wrap64 ((i : Int) + 1))) (hend : ∀ k, F (k + 1) l l l.length = some true) : ∀ k, l.length < k → F k l l 0 = some true := by
  intro k hk
  exact run_loop (F := fun k i (_ : Unit) => F k l l i) (n := l.length) hn (fun _ => ()) (some true) (fun k i hi => hstep k i hi) (fun k => hend k) k hk
theorem first_bad (p : Nat → Bool) (n : Nat) : (∀ j : Nat, j < n → p j = true) ∨ ∃ m, m < n ∧ p m = false ∧ ∀ j, j < m → p j = true := by
  induction n with
  | zero => exact .inl fun j hj => absurd hj (Nat.not_lt_zero _)
  | succ n ih =>
    rcases ih with h | ⟨m, hm, h⟩
    · cases hp : p n
      · exact .inr ⟨n, Nat.lt_succ_self _, hp, h⟩
      · refine .inl fun j hj => ?_
        by_cases e : j = n
        · rw [e]; exact hp
        · exact h j (by omega)
    · exact .inr ⟨m, by omega, h⟩
theorem ev_bind {α β : Type} {g : Nat → Option α} {f : Nat → α → Option β} {a : α} {r : β} (h : Ev g a) (k : Ev (fun n => f n a) r) : Ev (fun n => (g n).bind (f n)) r := Ev.bind h k
theorem ev_fold {α σ ρ : Type} {F : Nat → Int → σ → Option ρ} (l : List α) (z : α) (step : σ → α → σ) (fin : σ → ρ)
    (hstep : ∀ (i : Nat) (s : σ) (r : ρ), i < l.length → Ev (fun k => F k ((i + 1 : Nat) : Int) (step s (l.getD i z))) r → Ev (fun k => F k i s) r)
    (hend : ∀ s, Ev (fun k => F k l.length s) (fin s)) (s0 : σ) : Ev (fun k => F k 0 s0) (fin (l.foldl step s0)) := by
  have key : ∀ d (i : Nat) (s : σ), i + d = l.length → Ev (fun k => F k i s) (fin ((l.drop i).foldl step s)) := by
    intro d
    induction d with
    | zero =>
      intro i s hi
      obtain rfl : i = l.length := by omega
      simpa using hend s
    | succ d ih =>
      intro i s hi
      have hlt : i < l.length := by omega
      refine hstep i s _ hlt ?_
      have h := ih (i + 1) (step s (l.getD i z)) (by omega)
      rw [List.drop_eq_getElem_cons hlt, List.foldl_cons, ← getD_lt hlt z]
      exact h
  simpa using key l.length 0 s0 (by omega)
theorem ev_foldI {α σ ρ : Type} {F : Nat → Int → σ → Option ρ} (l : List α) (z : α) (step : σ → α → σ) (fin : σ → ρ) (Inv : Nat → σ → Prop)
    (hinv : ∀ (i : Nat) (s : σ), i < l.length → Inv i s → Inv (i + 1) (step s (l.getD i z)))
    (hstep : ∀ (i : Nat) (s : σ) (r : ρ), i < l.length → Inv i s → Ev (fun k => F k ((i + 1 : Nat) : Int) (step s (l.getD i z))) r → Ev (fun k => F k i s) r)
    (hend : ∀ s, Inv l.length s → Ev (fun k => F k l.length s) (fin s)) (s0 : σ) (h0 : Inv 0 s0) : Ev (fun k => F k 0 s0) (fin (l.foldl step s0)) := by
  have key : ∀ d (i : Nat) (s : σ), i + d = l.length → Inv i s → Ev (fun k => F k i s) (fin ((l.drop i).foldl step s)) := by
    intro d
    induction d with
    | zero =>
      intro i s hi hI
      obtain rfl : i = l.length := by omega
      simpa using hend s hI
    | succ d ih =>
      intro i s hi hI
      have hlt : i < l.length := by omega
      refine hstep i s _ hlt hI ?_
      have h := ih (i + 1) (step s (l.getD i z)) (by omega) (hinv i s hlt hI)
      rw [List.drop_eq_getElem_cons hlt, List.foldl_cons, ← getD_lt hlt z]
      exact h
  simpa using key l.length 0 s0 (by omega) h0
theorem fold_map {α β : Type} (f : α → β) (l : List α) (s : List β) : l.foldl (fun s x => s ++ [f x]) s = s ++ l.map f := by
  induction l generalizing s with
  | nil => simp
  | cons x l ih => simp [ih]
theorem cnt_ok {q : Int} {c n : Nat} (hq : 0 ≤ q) : ¬ (cnt q c n < 0) := by unfold cnt; omega
theorem ev_next {α : Type} {g f : Nat → Option α} {r : α} (h : ∀ k, g (k + 1) = f k) (k : Ev f r) : Ev g r := Ev.step h k
theorem bne_self {α : Type} [BEq α] [LawfulBEq α] (a : α) : (a != a) = false := by simp
theorem ev_find {ρ : Type} {F : Nat → Int → Option ρ} (n : Nat) (p : Nat → Bool) (hit : Nat → ρ) (miss : ρ)
    (hstep : ∀ (i : Nat), i < n → p i = false → ∀ r, Ev (fun k => F k ((i + 1 : Nat) : Int)) r → Ev (fun k => F k i) r) (hhit : ∀ (i : Nat), i < n → p i = true → Ev (fun k => F k i) (hit i)) (hend : Ev (fun k => F k n) miss) :
    Ev (fun k => F k 0) (match (List.range n).find? p with | some j => hit j | none => miss) := by
  have key : ∀ m r (i : Nat), i ≤ m → m ≤ n → (∀ j, j < m → p j = false) → Ev (fun k => F k m) r → Ev (fun k => F k ((m - i : Nat) : Int)) r := by
    intro m r i
    induction i with
    | zero => intro _ _ _ h; simpa using h
    | succ i ih =>
      intro hi hm hb h
      have h1 := ih (by omega) hm hb h
      refine hstep (m - (i + 1)) (by omega) (hb _ (by omega)) r ?_
      rw [show m - (i + 1) + 1 = m - i by omega]
      exact h1
  rcases first_bad (fun j => !(p j)) n with h | ⟨m, hm, hbad, hb⟩
  · have e : (List.range n).find? p = none := by
      rw [List.find?_eq_none]
      intro x hx
      have := h x (List.mem_range.1 hx)
      simpa using this
    rw [e]
    have := key n miss n (Nat.le_refl _) (Nat.le_refl _) (fun j hj => by simpa using h j hj) hend
    simpa using this
  · have hp : p m = true := by simpa using hbad
    have e : (List.range n).find? p = some m := by
      rw [List.find?_range_eq_some]
      exact ⟨hp, List.mem_range.2 hm, fun i hi => by simpa using hb i hi⟩
    rw [e]
    have := key m (hit m) m (Nat.le_refl _) (by omega) (fun j hj => by simpa using hb j hj) (hhit m hm hp)
    simpa using this
theorem ev_all {ρ : Type} {F : Nat → Int → Option ρ} (n : Nat) (p : Nat → Bool) (yes no : ρ)
    (hstep : ∀ (i : Nat), i < n → p i = true → ∀ r, Ev (fun k => F k ((i + 1 : Nat) : Int)) r → Ev (fun k => F k i) r) (hbad : ∀ (i : Nat), i < n → p i = false → Ev (fun k => F k i) no) (hend : Ev (fun k => F k n) yes) :
    Ev (fun k => F k 0) (if (List.range n).all p = true then yes else no) := by
  have h := ev_find (F := F) n (fun j => !(p j)) (fun _ => no) yes (fun i hi hp r h => hstep i hi (by simpa using hp) r h) (fun i hi hp => hbad i hi (by simpa using hp)) hend
  have e : (match (List.range n).find? (fun j => !(p j)) with | some _ => no | none => yes) = if (List.range n).all p = true then yes else no := by
    cases hf : (List.range n).find? (fun j => !(p j)) with
    | none =>
      rw [List.find?_eq_none] at hf
      rw [if_pos]
      rw [List.all_eq_true]
      intro x hx
      have := hf x hx
      simpa using this
    | some j =>
      have h1 := List.find?_some hf
      have h2 := List.mem_of_find?_eq_some hf
      rw [if_neg]
      intro h3
      have := (List.all_eq_true.1 h3) j h2
      rw [this] at h1
      simp at h1
  rw [← e]
  exact h
def idxI (l : List Int) (x : Int) : Int := match (List.range l.length).find? (fun j => l.getD j 0 == x) with | some j => (j : Int) | none => -1
theorem idxI_contains (l : List Int) (x : Int) : decide (0 ≤ idxI l x) = l.contains x := by
  unfold idxI
  cases hf : (List.range l.length).find? (fun j => l.getD j 0 == x) with
  | none =>
    rw [List.find?_eq_none] at hf
    have : x ∉ l := by
      intro hx
      obtain ⟨j, hj, rfl⟩ := List.getElem_of_mem hx
      have := hf j (List.mem_range.2 hj)
      simp [List.getD, hj] at this
    simp [this]
  | some j =>
    have h1 := List.find?_some hf
    have h2 := List.mem_range.1 (List.mem_of_find?_eq_some hf)
    have : x ∈ l := by
      have e : l.getD j 0 = x := by simpa using h1
      rw [← e, getD_lt h2]
      exact List.getElem_mem h2
    simp [this]
def orderB (s : Int) (l : List Int) : Bool := (List.range l.length).all fun i => inB (l.getD i 0) 0 (wrap64 (s - 1)) && !((l.take i).contains (l.getD i 0))
theorem ev_steps {σ ρ : Type} {F : Nat → Int → σ → Option ρ} (a n : Nat) (han : a ≤ n) (st : Nat → σ) (r : ρ)
    (hstep : ∀ (i : Nat), a ≤ i → i < n → Ev (fun k => F k ((i + 1 : Nat) : Int) (st (i + 1))) r → Ev (fun k => F k i (st i)) r) (h : Ev (fun k => F k n (st n)) r) : Ev (fun k => F k a (st a)) r := by
  have key : ∀ d, a + d ≤ n → Ev (fun k => F k ((n - d : Nat) : Int) (st (n - d))) r := by
    intro d
    induction d with
    | zero => intro _; simpa using h
    | succ d ih =>
      intro hd
      have h1 := ih (by omega)
      refine hstep (n - (d + 1)) (by omega) (by omega) ?_
      rw [show n - (d + 1) + 1 = n - d by omega]
      exact h1
  have := key (n - a) (by omega)
  rw [show n - (n - a) = a by omega] at this
  exact this
def stF {σ : Type} (step : σ → Nat → σ) (s0 : σ) (i : Nat) : σ := (List.range i).foldl step s0
theorem stF_zero {σ : Type} (step : σ → Nat → σ) (s0 : σ) : stF step s0 0 = s0 := rfl
theorem stF_succ {σ : Type} (step : σ → Nat → σ) (s0 : σ) (i : Nat) : stF step s0 (i + 1) = step (stF step s0 i) i := by simp [stF, List.range_succ]
theorem stF_inv {σ : Type} {step : σ → Nat → σ} {s0 : σ} (P : σ → Prop) (h0 : P s0) (n : Nat) (hs : ∀ s i, i < n → P s → P (step s i)) : ∀ i, i ≤ n → P (stF step s0 i) := by
  intro i
  induction i with
  | zero => intro _; exact h0
  | succ i ih => intro hi; rw [stF_succ]; exact hs _ _ (by omega) (ih (by omega))
theorem all_first {n : Nat} {p : Nat → Bool} {l : Bool} (hl : l = (List.range n).all p) : (l = true ∧ ∀ j : Nat, j < n → p j = true) ∨ ∃ m, m < n ∧ l = false ∧ p m = false ∧ ∀ j : Nat, j < m → p j = true := by
  rcases first_bad p n with h | ⟨m, hm, hb, h⟩
  · left
    exact ⟨by rw [hl]; exact List.all_eq_true.2 fun j hj => h j (List.mem_range.1 hj), h⟩
  · right
    exact ⟨m, hm, by rw [hl]; exact List.all_eq_false.2 ⟨m, List.mem_range.2 hm, by rw [hb]; simp⟩, hb, h⟩
theorem all_range {α : Type} (l : List α) (z : α) (q : α → Bool) : l.all q = (List.range l.length).all fun j => q (l.getD j z) := by
  rw [Bool.eq_iff_iff, List.all_eq_true, List.all_eq_true]
  constructor
  · intro h j hj
    have hj := List.mem_range.1 hj
    rw [getD_lt hj]
    exact h _ (List.getElem_mem hj)
  · intro h x hx
    obtain ⟨j, hj, rfl⟩ := List.getElem_of_mem hx
    have := h j (List.mem_range.2 hj)
    rwa [getD_lt hj] at this
end Go.Proofs.Ytckcgfpbmojmoaa.Pl
