import Derived.Test.YtbhcdefemmpkpaaZPl
import Derived.Test.YtbhcdefemmpkpaaZFLibPerm
import Derived.Test.YtbhcdefemmpkpaaZFRevPlain
import Derived.Test.YtbhcdefemmpkpaaZFLibDraw
import Derived.Test.YtbhcdefemmpkpaaZFLibI64
import Derived.Test.YtbhcdefemmpkpaaZFOrder
import Derived.Test.YtbhcdefemmpkpaaZG3
import Derived.Test.YtbhcdefemmpkpaaZG5
import Derived.Test.YtbhcdefemmpkpaaZG5
import Derived.Test.YtbhcdefemmpkpaaZG3
import Derived.Test.YtbhcdefemmpkpaaZG2
namespace Go.Proofs.Ytbhcdefemmpkpaa.G
open Go.RowKit Go.Proofs.YtbhcdefemmpkpaaW.PrintWords Go.Proofs.YtbhcdefemmpkpaaW.PrintLast Go.Proofs.YtbhcdefemmpkpaaW.PrintMore
attribute [local go_sem] max2_int min2_int max_two min_two max_three min_three max_four min_four
set_option linter.unusedVariables false
set_option linter.unusedSimpArgs false
open Go.Proofs.Ytbhcdefemmpkpaa.Wk Go.Proofs.Ytbhcdefemmpkpaa.Pl
namespace Disc
def sm (f : Nat → Int) : Nat → Int
  | 0 => 0
  | n + 1 => sm f n + f n
theorem sm_congr {f g : Nat → Int} : ∀ n, (∀ i, i < n → f i = g i) → sm f n = sm g n
  | 0, _ => rfl
  | n + 1, h => by rw [sm, sm, sm_congr n fun i hi => h i (by omega), h n (by omega)]
theorem sm_le {f g : Nat → Int} : ∀ n, (∀ i, i < n → f i ≤ g i) → sm f n ≤ sm g n
  | 0, _ => Int.le_refl _
  | n + 1, h => by have := sm_le n fun i hi => h i (by omega); have := h n (by omega); rw [sm, sm]; omega
theorem sm_add (f g : Nat → Int) : ∀ n, sm (fun i => f i + g i) n = sm f n + sm g n
  | 0 => rfl
  | n + 1 => by rw [sm, sm, sm, sm_add f g n]; omega
theorem sm_zero : ∀ n, sm (fun _ => 0) n = 0
  | 0 => rfl
  | n + 1 => by rw [sm, sm_zero n]; rfl
theorem sm_swap (f : Nat → Nat → Int) (n : Nat) : ∀ q, sm (fun i => sm (fun t => f t i) n) q = sm (fun t => sm (fun i => f t i) q) n
  | 0 => by simp only [sm]; rw [sm_zero]
  | q + 1 => by
    simp only [sm]
    rw [sm_swap f n q, ← sm_add]
theorem sm_list (g : Int → Int) (l : List Int) : (l.map g).sum = sm (fun i => g (l.getD i 0)) l.length := by
  have key : ∀ n, n ≤ l.length → ((l.take n).map g).sum = sm (fun i => g (l.getD i 0)) n := by
    intro n
    induction n with
    | zero => intro _; simp [sm]
    | succ n ih =>
      intro hn
      rw [List.take_succ_eq_append_getElem (by omega), List.map_append, List.sum_append, ih (by omega), sm, getD_lt (by omega)]
      simp
  have := key l.length (Nat.le_refl _)
  rwa [List.take_length] at this
theorem sm_nonneg {f : Nat → Int} : ∀ n, (∀ i, i < n → 0 ≤ f i) → 0 ≤ sm f n
  | 0, _ => Int.le_refl _
  | n + 1, h => by have := sm_nonneg n fun i hi => h i (by omega); have := h n (by omega); rw [sm]; omega
theorem sm_bd (f : Nat → Int) (c : Int) : ∀ n, (∀ i, i < n → 0 ≤ f i ∧ f i ≤ c) → 0 ≤ sm f n ∧ sm f n ≤ n * c
  | 0, _ => by simp [sm]
  | n + 1, h => by
    have h1 := sm_bd f c n fun i hi => h i (by omega)
    have h2 := h n (by omega)
    rw [sm]
    have : ((n + 1 : Nat) : Int) * c = n * c + c := by rw [show ((n + 1 : Nat) : Int) = n + 1 by omega, Int.add_mul]; omega
    omega
theorem sm_tail (g : Nat → Int) (i : Nat) : ∀ n, sm (fun j => if i < j then g j else 0) (i + 1 + n) = sm (fun p => g (i + 1 + p)) n
  | 0 => by
    rw [Nat.add_zero, sm_congr (g := fun _ => 0) (i + 1) fun j hj => if_neg (by omega), sm_zero]
    rfl
  | n + 1 => by
    rw [← Nat.add_assoc, sm, sm_tail g i n, sm, if_pos (by omega)]
theorem perm_sum {l m : List Int} (h : l.Perm m) : l.sum = m.sum := by
  induction h with
  | nil => rfl
  | cons x _ ih => simp [ih]
  | swap x y l => simp; omega
  | trans _ _ h1 h2 => rw [h1, h2]
def iota (n : Nat) : List Int := (List.range n).map fun (i : Nat) => (i : Int)
theorem iota_length (n : Nat) : (iota n).length = n := by simp [iota]
theorem iota_succ (n : Nat) : iota (n + 1) = iota n ++ [(n : Int)] := by simp [iota, List.range_succ]
theorem iota_at {n j : Nat} (h : j < n) : (iota n).getD j 0 = j := by simp [iota, List.getD, h]
theorem iota_mem {n : Nat} {x : Int} : x ∈ iota n ↔ 0 ≤ x ∧ x < n := by
  unfold iota
  rw [List.mem_map]
  constructor
  · rintro ⟨i, hi, rfl⟩
    have := List.mem_range.1 hi
    omega
  · intro h
    exact ⟨x.toNat, List.mem_range.2 (by omega), by omega⟩
theorem iota_nodup (n : Nat) : (iota n).Nodup := by
  refine List.pairwise_iff_getElem.2 fun i j hi hj hij => ?_
  simp only [iota, List.getElem_map, List.getElem_range]
  omega
theorem sm_perm {a : List Int} {q : Nat} (h : a.Perm (iota q)) (f : Int → Int) : sm (fun i => f (a.getD i 0)) q = sm (fun i => f (i : Int)) q := by
  have hl : a.length = q := by rw [h.length_eq, iota_length]
  have h1 := sm_list f a
  rw [perm_sum (h.map f), sm_list, iota_length, hl] at h1
  rw [← h1]
  exact sm_congr q fun i hi => by rw [iota_at hi]
theorem idx_nodup {l : List Int} (hn : l.Nodup) {j : Nat} (hj : j < l.length) : idxI l (l.getD j 0) = j := by
  unfold idxI
  have : (List.range l.length).find? (fun i => l.getD i 0 == l.getD j 0) = some j := by
    rw [List.find?_range_eq_some]
    refine ⟨by simp, List.mem_range.2 hj, fun i hi => ?_⟩
    have := List.pairwise_iff_getElem.1 hn i j (by omega) hj hi
    rw [getD_lt (show i < l.length by omega), getD_lt hj]
    simpa using this
  rw [this]
structure Ord (q : Nat) (a : List Int) : Prop where
  perm : a.Perm (iota q)
theorem Ord.len {q : Nat} {a : List Int} (h : Ord q a) : a.length = q := by rw [h.perm.length_eq, iota_length]
theorem Ord.nodup {q : Nat} {a : List Int} (h : Ord q a) : a.Nodup := h.perm.nodup_iff.2 (iota_nodup q)
theorem Ord.at {q : Nat} {a : List Int} (h : Ord q a) {i : Nat} (hi : i < q) : 0 ≤ a.getD i 0 ∧ a.getD i 0 < q := by
  rw [getD_lt (show i < a.length by rw [h.len]; exact hi)]
  exact iota_mem.1 (h.perm.mem_iff.1 (List.getElem_mem _))
theorem Ord.orderB {q : Nat} {a : List Int} (h : Ord q a) (h1 : 1 ≤ q) (h8 : q ≤ 8) : orderB q a = true := by
  refine orderB_yes fun j hj => ?_
  rw [h.len] at hj
  have hb := h.at hj
  have hn := List.all_eq_true.1 ((RevPlain.nodup_all a).1 h.nodup) j (List.mem_range.2 (by rw [h.len]; exact hj))
  unfold ordAt
  rw [w_id (by omega) (by omega), inB_yes hb.1 (by omega), Bool.true_and]
  exact hn
def c (b : List Int) (x y : Int) : Int := if idxI b x > idxI b y then 1 else 0
theorem c_bd (b : List Int) (x y : Int) : 0 ≤ c b x y ∧ c b x y ≤ 1 := by unfold c; split <;> omega
def rowS (a b : List Int) (q i : Nat) : Int := sm (fun p => c b (a.getD i 0) (a.getD (i + 1 + p) 0)) (q - (i + 1))
def D (a b : List Int) (q : Nat) : Int := sm (rowS a b q) q
theorem rowS_bd (a b : List Int) (q i : Nat) : 0 ≤ rowS a b q i ∧ rowS a b q i ≤ (q - (i + 1) : Nat) := by
  have := sm_bd (fun p => c b (a.getD i 0) (a.getD (i + 1 + p) 0)) 1 (q - (i + 1)) fun p _ => c_bd _ _ _
  unfold rowS
  omega
theorem D_bd (a b : List Int) (q : Nat) : 0 ≤ D a b q ∧ D a b q ≤ sm (fun i => (q - (i + 1) : Nat)) q :=
  ⟨sm_nonneg q fun i _ => (rowS_bd a b q i).1, sm_le q fun i _ => (rowS_bd a b q i).2⟩
def G (a b : List Int) (x y : Int) : Int := if idxI a x < idxI a y ∧ idxI b x > idxI b y then 1 else 0
theorem D_eq {a b : List Int} {q : Nat} (h : Ord q a) : D a b q = sm (fun i => sm (fun j => G a b (i : Int) (j : Int)) q) q := by
  have e1 : D a b q = sm (fun i => sm (fun j => G a b (a.getD i 0) (a.getD j 0)) q) q := by
    unfold D
    refine sm_congr q fun i hi => ?_
    unfold rowS
    rw [← sm_tail (fun j => c b (a.getD i 0) (a.getD j 0)) i (q - (i + 1)), show i + 1 + (q - (i + 1)) = q by omega]
    refine sm_congr q fun j hj => ?_
    unfold G c
    rw [idx_nodup h.nodup (show i < a.length by rw [h.len]; exact hi), idx_nodup h.nodup (show j < a.length by rw [h.len]; exact hj)]
    by_cases e : i < j
    · by_cases e2 : idxI b (a.getD i 0) > idxI b (a.getD j 0)
      · rw [if_pos e, if_pos e2, if_pos ⟨by omega, e2⟩]
      · rw [if_pos e, if_neg e2, if_neg fun hh => e2 hh.2]
    · rw [if_neg e, if_neg fun hh => e (by have := hh.1; omega)]
  rw [e1, sm_congr q fun i hi => sm_perm h.perm fun y => G a b (a.getD i 0) y]
  exact sm_perm h.perm fun x => sm (fun j => G a b x (j : Int)) q
theorem D_symm {a b : List Int} {q : Nat} (ha : Ord q a) (hb : Ord q b) : D a b q = D b a q := by
  rw [D_eq ha, D_eq hb, sm_swap (fun i j => G b a (i : Int) (j : Int)) q q |>.symm]
  refine sm_congr q fun i _ => sm_congr q fun j _ => ?_
  unfold G
  by_cases e : idxI a (i : Int) < idxI a (j : Int) ∧ idxI b (i : Int) > idxI b (j : Int)
  · rw [if_pos e, if_pos ⟨e.2, e.1⟩]
  · rw [if_neg e, if_neg fun hh => e ⟨hh.2, hh.1⟩]
theorem D_self {a : List Int} {q : Nat} (ha : Ord q a) : D a a q = 0 := by
  rw [D_eq ha, sm_congr (g := fun _ => 0) q fun i _ => by
    rw [sm_congr (g := fun _ => 0) q fun j _ => (by unfold G; exact if_neg (fun h => by have := h.1; have := h.2; omega) : G a a (i : Int) (j : Int) = 0), sm_zero], sm_zero]
theorem tri (q : Nat) (h : q ≤ 8) : sm (fun i => (q - (i + 1) : Nat)) q = wrap64 (Int.tdiv (wrap64 ((q : Int) * (wrap64 ((q : Int) - 1)))) 2) := by
  obtain rfl | rfl | rfl | rfl | rfl | rfl | rfl | rfl | rfl : q = 0 ∨ q = 1 ∨ q = 2 ∨ q = 3 ∨ q = 4 ∨ q = 5 ∨ q = 6 ∨ q = 7 ∨ q = 8 := by omega
  all_goals decide +kernel
theorem order_t {l : List Int} (hc : Draw.CodeOk l) (s : Nat) (hs : s ≤ 8) : ∃ o : List Int, Ord s o ∧ Ev (fun k => spec_P6Order.f k l s) o := by
  have key : ∀ d (out left : List Int) (a sd : Int), left.length = d → out.length + d ≤ 8 → 0 ≤ a → a ≤ (10 + 2 * out.length : Nat) →
      ∃ o, o.Perm (out ++ left) ∧ Ev (fun k => spec_P6Order.l1 k out left l a sd) o := by
    intro d
    induction d with
    | zero =>
      intro out left a sd hd _ _ _
      obtain rfl : left = [] := List.length_eq_zero_iff.1 hd
      refine ⟨out, by simp, Ev.step (fun k => spec_P6Order.l1.eq_2 _ _ _ _ _ k) ?_⟩
      simp only [List.length_nil, if_neg (show ¬ (((0 : Nat) : Int) > 0) by omega)]
      exact Ev.now _
    | succ d ih =>
      intro out left a sd hd hl h0 h1
      obtain ⟨v, a', sd', e, hv0, hv1, ha0, ha1⟩ := Draw.pick_t hc a sd (left.length : Int) (10 + 2 * out.length) h0 h1 (by omega)
      obtain ⟨i, rfl⟩ : ∃ i : Nat, v = i := ⟨v.toNat, by omega⟩
      have hi : i < left.length := by omega
      have hlen : (left.take i ++ left.drop (i + 1)).length = d := by rw [List.length_append, List.length_take, List.length_drop]; omega
      have hw : wrap64 ((i : Int) + 1) = ((i + 1 : Nat) : Int) := w_i hi (show left.length ≤ 4611686018427387904 by omega)
      have hr : rd left (i : Int) = left[i] := by show left.getD i 0 = _; rw [getD_lt hi]
      obtain ⟨o, hp, he⟩ := ih (out ++ [left[i]]) (left.take i ++ left.drop (i + 1)) a' sd' hlen (by simp; omega) ha0 (by simp; omega)
      refine ⟨o, hp.trans ?_, Ev.step (fun k => spec_P6Order.l1.eq_2 _ _ _ _ _ k) ?_⟩
      · have e2 : left = left.take i ++ left[i] :: left.drop (i + 1) := by
          rw [← List.drop_eq_getElem_cons hi, List.take_append_drop]
        conv => rhs; rw [e2]
        rw [List.append_assoc]
        refine List.Perm.append_left out ?_
        show (left[i] :: (left.take i ++ left.drop (i + 1))).Perm _
        exact List.perm_middle.symm
      · have t1 : (left.take i).length ≤ 8 := by rw [List.length_take]; omega
        have t2 : (left.drop (i + 1)).length ≤ 8 := by rw [List.length_drop]; omega
        simp only [e, Option.bind_some, hw, hr, Int.toNat_natCast, List.nil_append, List.length_nil, Nat.zero_add, if_pos (show (left.length : Int) > 0 by omega), if_pos (show (0 : Int) ≤ (i : Int) by omega), if_pos (show (i : Int) < (left.length : Int) by omega), if_pos (show out.length < 17592186044416 by omega), if_pos (show (i : Int) ≤ (left.length : Int) by omega), if_pos (show (left.take i).length < 17592186044416 by omega), if_pos (show (0 : Int) ≤ ((i + 1 : Nat) : Int) by omega), if_pos (show ((i + 1 : Nat) : Int) ≤ (left.length : Int) by omega), if_pos (show (left.take i).length + (left.drop (i + 1)).length < 17592186044416 by omega)]
        exact he
  obtain ⟨o, hp, he⟩ := key s [] (iota s) 0 0 (iota_length s) (by simp; omega) (by omega) (by simp)
  refine ⟨o, ⟨by simpa using hp⟩, ?_⟩
  unfold spec_P6Order.f spec_l00From.f
  simp only [Option.bind_some]
  refine ev_steps (F := fun k i x => spec_P6Order.l0 k s [] x i l 0 0) 0 s (Nat.zero_le _) (fun i => iota i) o (fun i _ hi h => ?_) ?_
  · refine Ev.step (fun k => spec_P6Order.l0.eq_2 _ _ _ _ _ _ _ k) ?_
    simp only [if_pos (show (i : Int) < (s : Int) by omega), iota_length, if_pos (show i < 17592186044416 by omega), w_i hi (show s ≤ 4611686018427387904 by omega), ← iota_succ]
    exact h
  · refine Ev.step (fun k => spec_P6Order.l0.eq_2 _ _ _ _ _ _ _ k) ?_
    simp only [if_neg (show ¬ ((s : Int) < (s : Int)) by omega)]
    exact he
theorem samples_t (n : Int) : impl_areSamples.f n = some (inB n 1 8) := by
  unfold impl_areSamples.f
  simp only [within_tells2, Option.bind_some]
theorem where_t {l : List Int} {x : Int} (hl : l.length ≤ 1048576) (hx : x ∈ l) : Ev (fun k => spec_l07Where.f k l x) (idxI l x) := by
  unfold spec_l07Where.f
  rcases first_bad (fun j => !(l.getD j 0 == x)) l.length with h | ⟨m, hm, hbad, hb⟩
  · obtain ⟨j, hj, rfl⟩ := List.getElem_of_mem hx
    have := h j hj
    simp [List.getD, hj] at this
  · have hp : (l.getD m 0 == x) = true := by simpa using hbad
    have e : idxI l x = (m : Int) := by
      unfold idxI
      have : (List.range l.length).find? (fun j => l.getD j 0 == x) = some m := by
        rw [List.find?_range_eq_some]
        exact ⟨hp, List.mem_range.2 hm, fun i hi => by simpa using hb i hi⟩
      rw [this]
    rw [e]
    refine ev_steps (F := fun k i (_ : Unit) => spec_l07Where.l0 k l x i) 0 m (Nat.zero_le _) (fun _ => ()) _ (fun i _ hi h => ?_) ?_
    · refine Ev.step (fun k => ?_) h
      have h3 : (i : Int) < (l.length : Int) := by omega
      have h4 := hb i hi
      simp only [spec_l07Where.l0]
      rw [if_pos (by omega), if_pos h3, w_i (by omega : i < l.length) (by omega), if_neg]
      simpa [rd] using h4
    · refine Ev.step (fun k => ?_) (Ev.now _)
      have h3 : (m : Int) < (l.length : Int) := by omega
      show spec_l07Where.l0 (k + 1) l x (m : Int) = _
      simp only [spec_l07Where.l0]
      rw [if_pos (by omega), if_pos h3, if_pos]
      simpa [rd] using hp
theorem acc_bd (a b : List Int) {q : Nat} (hq : q ≤ 8) (i : Nat) (hi : i < q) (p : Nat) (hp : p ≤ q - (i + 1)) :
    0 ≤ sm (rowS a b q) i + sm (fun p => c b (a.getD i 0) (a.getD (i + 1 + p) 0)) p ∧ sm (rowS a b q) i + sm (fun p => c b (a.getD i 0) (a.getD (i + 1 + p) 0)) p ≤ 100 := by
  have h1 := sm_bd (rowS a b q) 8 i fun j _ => by have := rowS_bd a b q j; omega
  have h2 := sm_bd (fun p => c b (a.getD i 0) (a.getD (i + 1 + p) 0)) 1 p fun j _ => c_bd _ _ _
  omega
theorem acc_step (a b : List Int) {q : Nat} (hq : q ≤ 8) (i : Nat) (hi : i < q) (p : Nat) (hp : p < q - (i + 1)) :
    sm (rowS a b q) i + sm (fun p => c b (a.getD i 0) (a.getD (i + 1 + p) 0)) (p + 1) = if idxI b (a.getD i 0) > idxI b (a.getD (i + 1 + p) 0) then wrap64 (sm (rowS a b q) i + sm (fun p => c b (a.getD i 0) (a.getD (i + 1 + p) 0)) p + 1) else sm (rowS a b q) i + sm (fun p => c b (a.getD i 0) (a.getD (i + 1 + p) 0)) p := by
  have h := acc_bd a b hq i hi p (by omega)
  rw [sm]
  generalize hs : sm (fun p => c b (a.getD i 0) (a.getD (i + 1 + p) 0)) p = t at h ⊢
  unfold c
  split
  · rw [w_id (by omega) (by omega)]; omega
  · omega
theorem spec_disc {a b : List Int} {q : Nat} (h1 : 1 ≤ q) (h8 : q ≤ 8) (ha : Ord q a) (hb : Ord q b) : Ev (fun k => spec_DiscordOf.f k q a b) (D a b q, 0) := by
  unfold spec_DiscordOf.f spec_l07Samples.f spec_l07Order.f
  simp only [l00In_tells2, Option.bind_some, if_pos (show a.length ≤ 1099511627776 by rw [ha.len]; omega), if_pos (show b.length ≤ 1099511627776 by rw [hb.len]; omega), inB_yes (show (1 : Int) ≤ q by omega) (show (q : Int) ≤ 8 by omega), Bool.true_and, ha.len, hb.len, ha.orderB h1 h8, hb.orderB h1 h8, decide_true, Bool.and_true, if_true, Bool.not_true, if_pos (show q ≤ 1099511627776 by omega)]
  have hmem : ∀ i : Nat, i < q → a.getD i 0 ∈ b := fun i hi => hb.perm.mem_iff.2 (iota_mem.2 (ha.at hi))
  have hw : ∀ i : Nat, i < q → Ev (fun k => spec_l07Where.f k b (a.getD i 0)) (idxI b (a.getD i 0)) := fun i hi => where_t (by rw [hb.len]; omega) (hmem i hi)
  have rd_nat : ∀ (l : List Int) (j : Nat), rd l (j : Int) = l.getD j 0 := fun _ _ => rfl
  have hal := ha.len
  refine Ev.step (fun k => spec_DiscordOf.j0.eq_2 _ _ _ k) ?_
  simp only [if_neg Bool.false_ne_true]
  refine ev_steps (F := fun k i acc => spec_DiscordOf.l0 k a b acc i) 0 q (Nat.zero_le _) (fun i => sm (rowS a b q) i) (D a b q, 0) (fun i _ hi hh => ?_) ?_
  · refine Ev.step (fun k => spec_DiscordOf.l0.eq_2 _ _ _ _ k) ?_
    simp only [hal, if_pos (show (i : Int) < (q : Int) by omega), w_i hi (show q ≤ 4611686018427387904 by omega)]
    have e0 : sm (rowS a b q) i = sm (rowS a b q) i + sm (fun p => c b (a.getD i 0) (a.getD (i + 1 + p) 0)) 0 := by rw [sm.eq_1 (fun p => c b (a.getD i 0) (a.getD (i + 1 + p) 0))]; omega
    rw [e0, show ((i + 1 : Nat) : Int) = ((i + 1 : Nat) : Int) + ((0 : Nat) : Int) by omega]
    refine ev_steps (F := fun k j acc => spec_DiscordOf.l1 k a b acc i (((i + 1 : Nat) : Int) + j)) 0 (q - (i + 1)) (Nat.zero_le _) (fun p => sm (rowS a b q) i + sm (fun p => c b (a.getD i 0) (a.getD (i + 1 + p) 0)) p) (D a b q, 0) (fun p _ hp hg => ?_) ?_
    · rw [acc_step a b h8 i hi p hp] at hg
      refine Ev.step (fun k => spec_DiscordOf.l1.eq_2 _ _ _ _ _ k) ?_
      have ej : ((i + 1 : Nat) : Int) + (p : Int) = ((i + 1 + p : Nat) : Int) := by omega
      have ej2 : ((i + 1 : Nat) : Int) + ((p + 1 : Nat) : Int) = ((i + 1 + p + 1 : Nat) : Int) := by omega
      simp only [ej2] at hg
      simp only [ej, hal, rd_nat, if_pos (show (((i + 1 + p : Nat) : Int) < (q : Int)) by omega), if_pos (show (0 : Int) ≤ (i : Int) by omega), if_pos (show (i : Int) < (q : Int) by omega), if_pos (show (0 : Int) ≤ ((i + 1 + p : Nat) : Int) by omega), w_i (show i + 1 + p < q by omega) (show q ≤ 4611686018427387904 by omega)]
      refine Ev.bind (hw i hi) (Ev.bind (hw _ (by omega)) ?_)
      by_cases e : idxI b (a.getD i 0) > idxI b (a.getD (i + 1 + p) 0)
      · simp only [if_pos e] at hg ⊢
        exact hg
      · simp only [if_neg e] at hg ⊢
        exact hg
    · refine Ev.step (fun k => spec_DiscordOf.l1.eq_2 _ _ _ _ _ k) ?_
      have ej : ((i + 1 : Nat) : Int) + ((q - (i + 1) : Nat) : Int) = (q : Int) := by omega
      simp only [ej, hal, if_neg (show ¬ ((q : Int) < (q : Int)) by omega), w_i hi (show q ≤ 4611686018427387904 by omega)]
      exact hh
  · refine Ev.step (fun k => spec_DiscordOf.l0.eq_2 _ _ _ _ k) ?_
    simp only [hal, if_neg (show ¬ ((q : Int) < (q : Int)) by omega)]
    exact Ev.now _
theorem impl_disc {a b : List Int} {q : Nat} (h1 : 1 ≤ q) (h8 : q ≤ 8) (ha : Ord q a) (hb : Ord q b) : Ev (fun k => impl_DiscordOf.f k q a b) (D a b q, 0) := by
  unfold impl_DiscordOf.f impl_IsOrder.f
  simp only [samples_t, Option.bind_some, if_pos (show a.length ≤ 1099511627776 by rw [ha.len]; omega), if_pos (show b.length ≤ 1099511627776 by rw [hb.len]; omega), inB_yes (show (1 : Int) ≤ q by omega) (show (q : Int) ≤ 8 by omega), Bool.true_and, ha.len, hb.len, ha.orderB h1 h8, hb.orderB h1 h8, decide_true, Bool.and_true, if_true, if_pos (show q ≤ 1099511627776 by omega)]
  have hx : ∀ i : Nat, i < q → Ev (fun k => slices_Index_int64_int64.f k b (a.getD i 0)) (idxI b (a.getD i 0)) := fun i hi => index_tells b _ (by rw [hb.len]; omega)
  have rd_nat : ∀ (l : List Int) (j : Nat), rd l (j : Int) = l.getD j 0 := fun _ _ => rfl
  have hal := ha.len
  refine ev_steps (F := fun k i acc => impl_DiscordOf.l0 k a b acc a q i) 0 q (Nat.zero_le _) (fun i => sm (rowS a b q) i) (D a b q, 0) (fun i _ hi hh => ?_) ?_
  · refine Ev.step (fun k => impl_DiscordOf.l0.eq_2 _ _ _ _ _ _ k) ?_
    have hdl : (a.drop (i + 1)).length = q - (i + 1) := by rw [List.length_drop, hal]
    simp only [hal, rd_nat, if_pos (show (i : Int) < (q : Int) by omega), if_pos (show (0 : Int) ≤ (i : Int) by omega), w_i hi (show q ≤ 4611686018427387904 by omega), if_pos (show (0 : Int) ≤ ((i + 1 : Nat) : Int) by omega), if_pos (show ((i + 1 : Nat) : Int) ≤ (q : Int) by omega), Int.toNat_natCast, hdl]
    have e0 : sm (rowS a b q) i = sm (rowS a b q) i + sm (fun p => c b (a.getD i 0) (a.getD (i + 1 + p) 0)) 0 := by rw [sm.eq_1 (fun p => c b (a.getD i 0) (a.getD (i + 1 + p) 0))]; omega
    rw [e0]
    refine ev_steps (F := fun k j acc => impl_DiscordOf.l1 k a b acc (a.getD i 0) a q i (a.drop (i + 1)) ((q - (i + 1) : Nat) : Int) j) 0 (q - (i + 1)) (Nat.zero_le _) (fun p => sm (rowS a b q) i + sm (fun p => c b (a.getD i 0) (a.getD (i + 1 + p) 0)) p) (D a b q, 0) (fun p _ hp hg => ?_) ?_
    · rw [acc_step a b h8 i hi p hp] at hg
      have hd : (a.drop (i + 1)).getD p 0 = a.getD (i + 1 + p) 0 := by simp [List.getD, List.getElem?_drop]
      refine Ev.step (fun k => impl_DiscordOf.l1.eq_2 _ _ _ _ _ _ _ _ _ _ k) ?_
      simp only [hdl, rd_nat, hd, if_pos (show (p : Int) < ((q - (i + 1) : Nat) : Int) by omega), if_pos (show (0 : Int) ≤ (p : Int) by omega), w_i (show p < q by omega) (show q ≤ 4611686018427387904 by omega)]
      refine Ev.bind (hx i hi) (Ev.bind (hx _ (by omega)) ?_)
      by_cases e : idxI b (a.getD i 0) > idxI b (a.getD (i + 1 + p) 0)
      · simp only [if_pos e] at hg ⊢
        exact hg
      · simp only [if_neg e] at hg ⊢
        exact hg
    · refine Ev.step (fun k => impl_DiscordOf.l1.eq_2 _ _ _ _ _ _ _ _ _ _ k) ?_
      simp only [if_neg (show ¬ (((q - (i + 1) : Nat) : Int) < ((q - (i + 1) : Nat) : Int)) by omega), w_i hi (show q ≤ 4611686018427387904 by omega)]
      exact hh
  · refine Ev.step (fun k => impl_DiscordOf.l0.eq_2 _ _ _ _ _ _ k) ?_
    simp only [if_neg (show ¬ ((q : Int) < (q : Int)) by omega)]
    exact Ev.now _
end Disc
end Go.Proofs.Ytbhcdefemmpkpaa.G
