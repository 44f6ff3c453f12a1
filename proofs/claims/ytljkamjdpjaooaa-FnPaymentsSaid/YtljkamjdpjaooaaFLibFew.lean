/- Plain laws on groups of parties: the reference's ways and the program's tree go through the same lists. -/
import Derived.Test.YtljkamjdpjaooaaPl
import Derived.Test.YtljkamjdpjaooaaFGroups
import Derived.Test.YtljkamjdpjaooaaFFewest
import Derived.Test.YtljkamjdpjaooaaG2
import Derived.Test.YtljkamjdpjaooaaG3
import Derived.Test.YtljkamjdpjaooaaFLibPay
namespace Go.Proofs.Ytljkamjdpjaooaa.G
open Go.RowKit Go.Proofs.YtljkamjdpjaooaaW.PrintWords Go.Proofs.YtljkamjdpjaooaaW.PrintLast Go.Proofs.YtljkamjdpjaooaaW.PrintMore
attribute [local go_sem] max2_int min2_int max_two min_two max_three min_three max_four min_four   -- for this text's walks alone
set_option linter.unusedVariables false
set_option linter.unusedSimpArgs false

open Go.Proofs.Ytljkamjdpjaooaa.Wk Go.Proofs.Ytljkamjdpjaooaa.Pl
namespace FewL
/-- A loop over a list, whatever comes behind it. -/
theorem ev_run {α σ ρ : Type} {F : Nat → Int → σ → Option ρ} (l : List α) (z : α) (step : σ → α → σ) (Inv : Nat → σ → Prop)
    (hinv : ∀ (i : Nat) (s : σ), i < l.length → Inv i s → Inv (i + 1) (step s (l.getD i z)))
    (hstep : ∀ (i : Nat) (s : σ) (r : ρ), i < l.length → Inv i s → Ev (fun k => F k ((i + 1 : Nat) : Int) (step s (l.getD i z))) r → Ev (fun k => F k i s) r)
    (s0 : σ) (h0 : Inv 0 s0) (r : ρ) (hend : Inv l.length (l.foldl step s0) → Ev (fun k => F k l.length (l.foldl step s0)) r) : Ev (fun k => F k 0 s0) r := by
  have key : ∀ d (i : Nat) (s : σ), i + d = l.length → Inv i s → (Inv l.length ((l.drop i).foldl step s) → Ev (fun k => F k l.length ((l.drop i).foldl step s)) r) → Ev (fun k => F k i s) r := by
    intro d
    induction d with
    | zero =>
      intro i s hi hI he
      obtain rfl : i = l.length := by omega
      simpa using he (by simpa using hI)
    | succ d ih =>
      intro i s hi hI he
      have hlt : i < l.length := by omega
      refine hstep i s _ hlt hI ?_
      refine ih (i + 1) (step s (l.getD i z)) (by omega) (hinv i s hlt hI) ?_
      rw [List.drop_eq_getElem_cons hlt, List.foldl_cons, ← getD_lt hlt z] at he
      exact he
  simpa using key l.length 0 s0 (by omega) h0 (by simpa using hend)
theorem fold_flat {α β : Type} (f : α → List β) (l : List α) (s : List β) : l.foldl (fun s x => s ++ f x) s = s ++ (l.map f).flatten := by
  induction l generalizing s with
  | nil => simp
  | cons x l ih => simp [ih]
theorem flat_len {β : Type} (m : Nat) : ∀ l : List (List β), (∀ x ∈ l, x.length ≤ m) → l.flatten.length ≤ l.length * m
  | [], _ => by simp
  | x :: l, h => by
    have h1 := h x List.mem_cons_self
    have h2 := flat_len m l (fun y hy => h y (List.mem_cons_of_mem _ hy))
    rw [List.flatten_cons, List.length_append, List.length_cons, Nat.succ_mul]
    omega
/-! ### A. The ways -/
def ways : Nat → List Int → Nat → List (List Int)
  | 0, b, _ => [b]
  | d + 1, b, g => ((List.range (g + 1)).map fun (j : Nat) => ways d (b ++ [(j : Int)]) (max g (j + 1))).flatten
theorem ways_len : ∀ (d : Nat) (b : List Int) (g : Nat), g + d ≤ 6 → (ways d b g).length ≤ 7 ^ d
  | 0, _, _, _ => by simp [ways]
  | d + 1, b, g, h => by
    unfold ways
    refine Nat.le_trans (flat_len (7 ^ d) _ fun x hx => ?_) ?_
    · obtain ⟨j, hj, rfl⟩ := List.mem_map.1 hx
      have := List.mem_range.1 hj
      exact ways_len d _ _ (by omega)
    · rw [List.length_map, List.length_range, Nat.pow_succ, Nat.mul_comm]
      exact Nat.mul_le_mul_left _ (by omega)
theorem own_t (l : List Int) (h : l.length ≤ 1000) : spec_l00Own.f l = some l := by
  unfold spec_l00Own.f
  simp only [Option.bind_some, List.length_nil, List.nil_append]
  rw [if_pos (by omega)]
theorem max_t (g j : Nat) (h : j ≤ 1000) : spec_l00Max.f (g : Int) (wrap64 ((j : Int) + 1)) = some ((max g (j + 1) : Nat) : Int) := by
  unfold spec_l00Max.f
  rw [show wrap64 ((j : Int) + 1) = ((j + 1 : Nat) : Int) by unfold wrap64; omega]
  by_cases hc : (g : Int) > ((j + 1 : Nat) : Int)
  · rw [if_pos hc, show max g (j + 1) = g by omega]
  · rw [if_neg hc, show max g (j + 1) = j + 1 by omega]
theorem pow7 {d : Nat} (h : d ≤ 6) : 7 ^ d ≤ 117649 := by
  have : (7 : Nat) ^ d ≤ 7 ^ 6 := Nat.pow_le_pow_right (by omega) h
  exact Nat.le_trans this (by decide)
theorem ways_tells (n : Nat) (hn : n ≤ 6) : ∀ (d : Nat) (b : List Int) (g : Nat), b.length + d = n → g ≤ b.length → Ev (fun k => spec_l06Ways.f k (n : Int) b (g : Int)) (ways d b g)
  | 0, b, g, hb, hg => by
    refine Ev.step (fun k => by simp only [spec_l06Ways.f]; rw [if_pos (by omega), own_t b (by omega)]; rfl) (Ev.now _)
  | d + 1, b, g, hb, hg => by
    refine Ev.step (f := fun k => spec_l06Ways.l0 k (n : Int) b (g : Int) [] 0) (fun k => by simp only [spec_l06Ways.f]; rw [if_neg (by omega)]) ?_
    have h := ev_foldI (F := fun k i s => spec_l06Ways.l0 k (n : Int) b (g : Int) s i) (List.range (g + 1)) 0 (fun s (j : Nat) => s ++ ways d (b ++ [(j : Int)]) (max g (j + 1))) (fun s => s) (fun i s => s.length ≤ i * 7 ^ d) (fun i s hi hI => by
        rw [List.length_range] at hi
        have h1 : (List.range (g + 1)).getD i 0 = i := by rw [getD_lt (by rw [List.length_range]; exact hi)]; simp
        have h2 := ways_len d (b ++ [(i : Int)]) (max g (i + 1)) (by omega)
        rw [h1, List.length_append, Nat.succ_mul]
        omega) (fun i s r hi hI h => by
        rw [List.length_range] at hi
        have h1 : (List.range (g + 1)).getD i 0 = i := by rw [getD_lt (by rw [List.length_range]; exact hi)]; simp
        rw [h1] at h
        have h2 := ways_len d (b ++ [(i : Int)]) (max g (i + 1)) (by omega)
        have h3 := pow7 (show d ≤ 6 by omega)
        have h4 : i * 7 ^ d ≤ 6 * 117649 := Nat.mul_le_mul (by omega) h3
        refine Ev.step (f := fun k => (spec_l06Ways.f k (n : Int) (b ++ [(i : Int)]) ((max g (i + 1) : Nat) : Int)).bind fun t127 => if s.length + t127.length < 5864062014805 then spec_l06Ways.l0 k (n : Int) b (g : Int) (s ++ t127) (wrap64 ((i : Int) + 1)) else none) (fun k => ?_) ?_
        · simp only [spec_l06Ways.l0]
          rw [if_pos (by omega), own_t b (by omega)]
          simp only [Option.bind_some]
          rw [if_pos (by omega), max_t g i (by omega)]
          simp only [Option.bind_some]
        · refine Ev.bind (ways_tells n hn d (b ++ [(i : Int)]) (max g (i + 1)) (by simp; omega) (by simp; omega)) ?_
          simp only [if_pos (show s.length + (ways d (b ++ [(i : Int)]) (max g (i + 1))).length < 5864062014805 by omega), w_i (show i < 7 by omega) (by omega)]
          exact h) (fun s hI => Ev.step (fun k => by simp only [spec_l06Ways.l0, List.length_range]; rw [if_neg (by omega)]) (Ev.now _)) [] (by simp)
    rw [fold_flat, List.nil_append] at h
    exact h
/-! ### B. The reference's groups -/
def mxs (c x : Int) : Int := if c > wrap64 (x + 1) then c else wrap64 (x + 1)
def cntI (b : List Int) : Int := b.foldl mxs 0
structure RG (b : List Int) (g : Nat) : Prop where
  lo : ∀ x ∈ b, 0 ≤ x ∧ x < (g : Int)
  ct : cntI b = (g : Int)
  le : g ≤ b.length
theorem RG.nil : RG [] 0 := ⟨by simp, rfl, Nat.le_refl _⟩
theorem RG.snoc {b : List Int} {g j : Nat} (h : RG b g) (hj : j ≤ g) (hg : g ≤ 6) : RG (b ++ [(j : Int)]) (max g (j + 1)) := by
  refine ⟨fun x hx => ?_, ?_, ?_⟩
  · rcases List.mem_append.1 hx with hx | hx
    · have := h.lo x hx; omega
    · rw [List.mem_singleton.1 hx]; omega
  · have h1 := h.ct
    unfold cntI at h1 ⊢
    rw [List.foldl_append, h1, List.foldl_cons, List.foldl_nil]
    unfold mxs
    rw [show wrap64 ((j : Int) + 1) = ((j + 1 : Nat) : Int) by unfold wrap64; omega]
    by_cases hc : (g : Int) > ((j + 1 : Nat) : Int)
    · rw [if_pos hc, show max g (j + 1) = g by omega]
    · rw [if_neg hc, show max g (j + 1) = j + 1 by omega]
  · have := h.le
    rw [List.length_append, List.length_singleton]
    omega
theorem ways_rg : ∀ (d : Nat) (b : List Int) (g : Nat), RG b g → g + d ≤ 6 → ∀ a ∈ ways d b g, (∃ g', RG a g') ∧ a.length = b.length + d
  | 0, b, g, h, _, a, ha => by
    rw [ways, List.mem_singleton] at ha
    subst ha
    exact ⟨⟨g, h⟩, rfl⟩
  | d + 1, b, g, h, hd, a, ha => by
    rw [ways, List.mem_flatten] at ha
    obtain ⟨l, hl, ha⟩ := ha
    obtain ⟨j, hj, rfl⟩ := List.mem_map.1 hl
    have hj := List.mem_range.1 hj
    have h1 := ways_rg d (b ++ [(j : Int)]) (max g (j + 1)) (h.snoc (by omega) (by omega)) (by omega) a ha
    rw [List.length_append, List.length_singleton] at h1
    exact ⟨h1.1, by omega⟩
def sumStep (s : List Int) (p : Int × Int) : List Int := s.set p.2.toNat (wrap64 (rd s p.2 + p.1))
def sums (own a : List Int) : List Int := (own.zip a).foldl sumStep (List.replicate (own.length + 1) 0)
def gstep (g : Nat) (s : Int) (p : Int × Int) : Int := if p.2 = (g : Int) then wrap64 (s + p.1) else s
def gsum (own a : List Int) (g : Nat) : Int := (own.zip a).foldl (gstep g) 0
theorem sums_len (L : List (Int × Int)) (s : List Int) : (L.foldl sumStep s).length = s.length := by
  induction L generalizing s with
  | nil => rfl
  | cons p L ih => rw [List.foldl_cons, ih]; simp [sumStep]
theorem sums_at (L : List (Int × Int)) : ∀ (s : List Int), (∀ p ∈ L, 0 ≤ p.2 ∧ p.2 < (s.length : Int)) → ∀ g : Nat, g < s.length → (L.foldl sumStep s).getD g 0 = L.foldl (gstep g) (s.getD g 0) := by
  induction L with
  | nil => intro s _ g _; rfl
  | cons p L ih =>
    intro s hp g hg
    rw [List.foldl_cons, List.foldl_cons, ih (sumStep s p) (fun q hq => by rw [show (sumStep s p).length = s.length by simp [sumStep]]; exact hp q (List.mem_cons_of_mem _ hq)) g (by simpa [sumStep] using hg)]
    congr 1
    have h0 := hp p List.mem_cons_self
    unfold sumStep gstep rd
    by_cases e : p.2 = (g : Int)
    · rw [if_pos e, e, Int.toNat_natCast, getD_set_self hg]
    · rw [if_neg e]
      have : p.2.toNat ≠ g := by omega
      simp [List.getD, List.getElem?_set_ne this]
def goodS (own a : List Int) : Bool := (sums own a).all fun x => x == 0
def stepS (own : List Int) (s : List Int × Int) (a : List Int) : List Int × Int := if goodS own a = true then (if cntI a > s.2 then (a, cntI a) else s) else s
theorem fold_pair {α σ τ : Type} (f : σ → α → σ) (h : τ → α → τ) (l : List α) (s : σ) (t : τ) : l.foldl (fun (x : σ × τ) a => (f x.1 a, h x.2 a)) (s, t) = (l.foldl f s, l.foldl h t) := by
  induction l generalizing s t with
  | nil => rfl
  | cons a l ih => exact ih _ _
theorem zip_snd {α β σ : Type} (f : σ → β → σ) : ∀ (l : List α) (m : List β) (s : σ), l.length = m.length → (l.zip m).foldl (fun s p => f s p.2) s = m.foldl f s
  | [], [], _, _ => rfl
  | _ :: l, _ :: m, s, h => zip_snd f l m _ (by simpa using h)
theorem all_fold (l : List Int) (b : Bool) : l.foldl (fun b x => b && (x == 0)) b = (b && l.all fun x => x == 0) := by
  induction l generalizing b with
  | nil => simp
  | cons x l ih => rw [List.foldl_cons, ih, List.all_cons, Bool.and_assoc]
theorem zip_at {l m : List Int} (h : l.length = m.length) {j : Nat} (hj : j < (l.zip m).length) : (l.zip m).getD j (0, 0) = (rd l (j : Int), rd m (j : Int)) := by
  rw [List.length_zip] at hj
  unfold rd
  rw [Int.toNat_natCast, getD_lt (by rw [List.length_zip]; exact hj), getD_lt (by omega), getD_lt (by omega), List.getElem_zip]
theorem groups_tells (own : List Int) (hn : own.length ≤ 6) : Ev (fun k => spec_l06Groups.f k own) ((ways own.length [] 0).foldl (stepS own) ([], 0)) := by
  unfold spec_l06Groups.f
  refine Ev.bind (ways_tells own.length hn own.length [] 0 (by simp) (Nat.le_refl _)) ?_
  have hlen := ways_len own.length [] 0 (by omega)
  have h7 := pow7 hn
  refine ev_foldI (F := fun k i (s : List Int × Int) => spec_l06Groups.l0 k own s.1 s.2 (ways own.length [] 0) i) (ways own.length [] 0) [] (stepS own) (fun s => s) (fun _ _ => True) (fun _ _ _ _ => trivial) (fun i s r hi _ h => ?_) (fun s _ => Ev.step (fun k => by simp only [spec_l06Groups.l0]; rw [if_neg (by omega)]) (Ev.now _)) ([], 0) trivial
  have ha : (ways own.length [] 0).getD i [] ∈ ways own.length [] 0 := by rw [getD_lt hi]; exact List.getElem_mem hi
  obtain ⟨⟨g, hrg⟩, hal⟩ := ways_rg own.length [] 0 RG.nil (by omega) _ ha
  rw [List.length_nil, Nat.zero_add] at hal
  have hrd : rd_L1 (ways own.length [] 0) (i : Int) = (ways own.length [] 0).getD i [] := rfl
  have hiw : wrap64 ((i : Int) + 1) = ((i + 1 : Nat) : Int) := w_i hi (by omega)
  have hi' : (i : Int) < ((ways own.length [] 0).length : Int) := by omega
  have hst : stepS own s ((ways own.length [] 0).getD i []) = if goodS own ((ways own.length [] 0).getD i []) = true then (if cntI ((ways own.length [] 0).getD i []) > s.2 then ((ways own.length [] 0).getD i [], cntI ((ways own.length [] 0).getD i [])) else s) else s := rfl
  rw [hst] at h
  generalize (ways own.length [] 0).getD i [] = a at ha hrg hal hrd h
  have hwn : wrap64 ((own.length : Int) + 1) = ((own.length + 1 : Nat) : Int) := w_i (show own.length < 7 by omega) (by omega)
  generalize ways own.length [] 0 = W at hlen hi' hrd h ha
  refine Ev.step (f := fun k => spec_l06Groups.l1 k own s.1 s.2 W i (List.replicate (own.length + 1) 0) 0 0) (fun k => ?_) ?_
  · simp only [spec_l06Groups.l0]
    rw [if_pos hi', hwn, if_pos (by omega), if_pos (by omega)]
    simp only [Int.toNat_natCast]
  have hz : (own.zip a).length = own.length := by rw [List.length_zip]; omega
  refine ev_run (F := fun k j (t : List Int × Int) => spec_l06Groups.l1 k own s.1 s.2 W i t.1 t.2 j) (own.zip a) (0, 0) (fun t p => (sumStep t.1 p, mxs t.2 p.2)) (fun _ t => t.1.length = own.length + 1) (fun j t hj ht => by simpa [sumStep] using ht) (fun j t r hj ht h => ?_) (List.replicate (own.length + 1) 0, 0) (by simp) r (fun _ => ?_)
  · rw [zip_at (by omega) hj] at h
    rw [hz] at hj
    have hlo := hrg.lo (rd a (j : Int)) (by unfold rd; rw [Int.toNat_natCast, getD_lt (by omega)]; exact List.getElem_mem (by omega))
    have hle := hrg.le
    refine Ev.step (fun k => ?_) h
    simp only [spec_l06Groups.l1, hrd]
    rw [if_pos (by omega), if_pos (by omega), if_pos hi', if_pos (by omega), if_pos (by omega), if_pos hlo.1, if_pos (by omega), w_i hj (by omega)]
    unfold spec_l00Max.f
    simp only [sumStep, mxs]
    by_cases hc : t.2 > wrap64 (rd a (j : Int) + 1)
    · rw [if_pos hc, if_pos hc]; rfl
    · rw [if_neg hc, if_neg hc]; rfl
  · rw [fold_pair sumStep (fun c (p : Int × Int) => mxs c p.2), zip_snd mxs own a 0 (by omega), hz]
    refine Ev.step (f := fun k => spec_l06Groups.l2 k own s.1 s.2 W i (sums own a) (cntI a) true 0) (fun k => by simp only [spec_l06Groups.l1]; rw [if_neg (by omega)]; rfl) ?_
    have hsl : (sums own a).length = own.length + 1 := by unfold sums; rw [sums_len]; simp
    refine ev_run (F := fun k j (b : Bool) => spec_l06Groups.l2 k own s.1 s.2 W i (sums own a) (cntI a) b j) (sums own a) 0 (fun b x => b && (x == 0)) (fun _ _ => True) (fun _ _ _ _ => trivial) (fun j b r hj _ h => ?_) true trivial r (fun _ => ?_)
    · refine Ev.step (fun k => ?_) h
      simp only [spec_l06Groups.l2]
      rw [if_pos (by omega), w_i hj (by omega)]
      cases b
      · rw [if_neg Bool.false_ne_true]; rfl
      · rw [if_pos rfl, if_pos (by omega)]; rfl
    · rw [all_fold, Bool.true_and]
      refine Ev.step (fun k => ?_) h
      simp only [spec_l06Groups.l2]
      rw [if_neg (by omega), hiw]
      show (if goodS own a = true then _ else _) = _
      cases goodS own a
      · rfl
      · simp only [if_true]
        by_cases hc : cntI a > s.2
        · rw [if_pos hc, if_pos hc, if_pos (by omega), if_pos hi', hrd]
        · rw [if_neg hc, if_neg hc]
/-! ### C. The program's groups -/
def grpOf (P b : List Int) (g : Nat) : List (List Int) := (List.range g).map fun (j : Nat) => ((P.zip b).filter fun p => p.2 == (j : Int)).map Prod.fst
theorem grpOf_len (P b : List Int) (g : Nat) : (grpOf P b g).length = g := by simp [grpOf]
theorem grpOf_at (P b : List Int) {g j : Nat} (h : j < g) : (grpOf P b g).getD j [] = ((P.zip b).filter fun p => p.2 == (j : Int)).map Prod.fst := by
  rw [getD_lt (by rw [grpOf_len]; exact h)]
  simp [grpOf]
theorem zip_snoc {α β : Type} : ∀ (P : List α) (b : List β) (x : β) (z : α), b.length < P.length → P.zip (b ++ [x]) = P.zip b ++ [(P.getD b.length z, x)]
  | [], _, _, _, h => by simp at h
  | p :: P, [], x, z, _ => by simp
  | p :: P, y :: b, x, z, h => by
    have := zip_snoc P b x z (by simpa using h)
    simp [this]
theorem grpOf_set {P b : List Int} {g j : Nat} (hb : b.length < P.length) (hj : j < g) : grpOf P (b ++ [(j : Int)]) g = (grpOf P b g).set j ((grpOf P b g).getD j [] ++ [P.getD b.length 0]) := by
  rw [grpOf_at P b hj]
  apply List.ext_getElem
  · simp [grpOf]
  · intro i h1 h2
    rw [grpOf_len] at h1
    rw [List.getElem_set]
    simp only [grpOf, List.getElem_map, List.getElem_range]
    rw [zip_snoc P b _ 0 hb, List.filter_append, List.map_append]
    by_cases e : j = i
    · subst e; simp
    · rw [if_neg e]
      have : ¬ ((j : Int) = (i : Int)) := by omega
      simp [this]
theorem grpOf_new {P b : List Int} {g : Nat} (hb : b.length < P.length) (hlo : ∀ x ∈ b, 0 ≤ x ∧ x < (g : Int)) : grpOf P (b ++ [(g : Int)]) (g + 1) = (grpOf P b g ++ [[]]).set g ([] ++ [P.getD b.length 0]) := by
  apply List.ext_getElem
  · simp [grpOf]
  · intro i h1 h2
    rw [grpOf_len] at h1
    rw [List.getElem_set]
    simp only [grpOf, List.getElem_map, List.getElem_range]
    rw [zip_snoc P b _ 0 hb, List.filter_append, List.map_append]
    by_cases e : g = i
    · subst e
      rw [if_pos rfl]
      have : (P.zip b).filter (fun p => p.2 == (g : Int)) = [] := by
        rw [List.filter_eq_nil_iff]
        rintro ⟨x, y⟩ hp he
        have := hlo y (List.of_mem_zip hp).2
        have e2 : y = (g : Int) := by simpa using he
        omega
      simp [this]
    · rw [if_neg e]
      have : ¬ ((g : Int) = (i : Int)) := by omega
      rw [List.getElem_append_left (by simp; omega)]
      simp [this]
theorem grpOf_mem {P b : List Int} {g : Nat} {o : List Int} (h : o ∈ grpOf P b g) : o.length ≤ P.length ∧ ∀ x ∈ o, x ∈ P := by
  obtain ⟨j, _, rfl⟩ := List.mem_map.1 h
  refine ⟨?_, fun x hx => ?_⟩
  · rw [List.length_map]
    refine Nat.le_trans (List.length_filter_le _ _) ?_
    rw [List.length_zip]
    omega
  · obtain ⟨p, hp, rfl⟩ := List.mem_map.1 hx
    exact (List.of_mem_zip (List.mem_filter.1 hp).1).1
def isum (nets own : List Int) : Int := own.foldl (fun s x => wrap64 (s + rd nets x)) 0
def leafI (nets : List Int) (gs best : List (List Int)) : List (List Int) := if (gs.all fun o => isum nets o == 0) = true then (if (gs.length : Int) > (best.length : Int) then gs else best) else best
theorem leaf_tells (nets : List Int) (gs best : List (List Int)) (hl : gs.length ≤ 1000) (hr : ∀ o ∈ gs, o.length ≤ 1000 ∧ ∀ x ∈ o, 0 ≤ x ∧ x < (nets.length : Int)) : Ev (fun k => grp.l0 k gs nets gs (gs.length : Int) 0 best) (leafI nets gs best) := by
  have h := ev_all (F := fun k i => grp.l0 k gs nets gs (gs.length : Int) i best) gs.length (fun i => isum nets (gs.getD i []) == 0) (if (gs.length : Int) > (best.length : Int) then gs else best) best ?_ ?_ ?_
  · rw [← all_range gs [] (fun o => isum nets o == 0)] at h
    exact h
  · intro i hi hp r h
    have hi' : (i : Int) < (gs.length : Int) := by omega
    have ho := hr (gs.getD i []) (by rw [getD_lt hi]; exact List.getElem_mem hi)
    have hrd : rd_L5 gs (i : Int) = gs.getD i [] := rfl
    have hp' : isum nets (gs.getD i []) = 0 := by simpa using hp
    generalize gs.getD i [] = o at ho hrd hp'
    refine Ev.step (f := fun k => grp.l1 k gs nets 0 gs (gs.length : Int) i o (o.length : Int) 0 best) (fun k => by simp only [grp.l0]; rw [if_pos hi', if_pos (by omega), if_pos hi', hrd]) ?_
    refine ev_run (F := fun k j s => grp.l1 k gs nets s gs (gs.length : Int) i o (o.length : Int) j best) o 0 (fun s x => wrap64 (s + rd nets x)) (fun _ _ => True) (fun _ _ _ _ => trivial) (fun j s r hj _ h => ?_) 0 trivial r (fun _ => ?_)
    · refine Ev.step (fun k => ?_) h
      have hx := ho.2 (rd o (j : Int)) (by unfold rd; rw [Int.toNat_natCast, getD_lt hj]; exact List.getElem_mem hj)
      simp only [grp.l1]
      rw [if_pos (by omega), if_pos (by omega), if_pos (by omega), if_pos hx.1, if_pos hx.2, w_i hj (by omega)]
      rfl
    · refine Ev.step (fun k => ?_) h
      simp only [grp.l1]
      rw [if_neg (by omega), if_pos (show List.foldl (fun s x => wrap64 (s + rd nets x)) 0 o = 0 from hp'), w_i hi (by omega)]
  · intro i hi hp
    have hi' : (i : Int) < (gs.length : Int) := by omega
    have ho := hr (gs.getD i []) (by rw [getD_lt hi]; exact List.getElem_mem hi)
    have hrd : rd_L5 gs (i : Int) = gs.getD i [] := rfl
    have hp' : ¬ isum nets (gs.getD i []) = 0 := by simpa using hp
    generalize gs.getD i [] = o at ho hrd hp'
    refine Ev.step (f := fun k => grp.l1 k gs nets 0 gs (gs.length : Int) i o (o.length : Int) 0 best) (fun k => by simp only [grp.l0]; rw [if_pos hi', if_pos (by omega), if_pos hi', hrd]) ?_
    refine ev_run (F := fun k j s => grp.l1 k gs nets s gs (gs.length : Int) i o (o.length : Int) j best) o 0 (fun s x => wrap64 (s + rd nets x)) (fun _ _ => True) (fun _ _ _ _ => trivial) (fun j s r hj _ h => ?_) 0 trivial best (fun _ => ?_)
    · refine Ev.step (fun k => ?_) h
      have hx := ho.2 (rd o (j : Int)) (by unfold rd; rw [Int.toNat_natCast, getD_lt hj]; exact List.getElem_mem hj)
      simp only [grp.l1]
      rw [if_pos (by omega), if_pos (by omega), if_pos (by omega), if_pos hx.1, if_pos hx.2, w_i hj (by omega)]
      rfl
    · refine Ev.step (f := fun _ => some best) (fun k => ?_) (Ev.now _)
      simp only [grp.l1]
      rw [if_neg (by omega), if_neg (show ¬ List.foldl (fun s x => wrap64 (s + rd nets x)) 0 o = 0 from hp')]
  · refine Ev.step (f := fun _ => some (if (gs.length : Int) > (best.length : Int) then gs else best)) (fun k => ?_) (Ev.now _)
    simp only [grp.l0]
    rw [if_neg (by omega)]
    by_cases hc : (gs.length : Int) > (best.length : Int)
    · rw [if_pos hc, if_pos hc]
    · rw [if_neg hc, if_neg hc]
def stepI (P nets : List Int) (best : List (List Int)) (a : List Int) : List (List Int) := leafI nets (grpOf P a (cntI a).toNat) best
theorem fold_flatten {α β σ : Type} (f : α → List β) (h : σ → β → σ) : ∀ (L : List α) (s : σ), ((L.map f).flatten).foldl h s = L.foldl (fun s x => (f x).foldl h s) s
  | [], _ => rfl
  | x :: L, s => by rw [List.map_cons, List.flatten_cons, List.foldl_append, List.foldl_cons, fold_flatten f h L]
theorem fold_snoc {α : Type} (l : List α) (s : List α) : l.foldl (fun s x => s ++ [x]) s = s ++ l := by
  induction l generalizing s with
  | nil => simp
  | cons x l ih => simp [ih]
theorem tree_tells (P nets : List Int) (hP : P.length ≤ 6) (hin : ∀ x ∈ P, 0 ≤ x ∧ x < (nets.length : Int)) : ∀ (d : Nat) (b : List Int) (g : Nat) (best : List (List Int)), b.length + d = P.length → RG b g → Ev (fun k => grp.f k (grpOf P b g) (b.length : Int) P nets best) ((ways d b g).foldl (stepI P nets) best)
  | 0, b, g, best, hb, hrg => by
    refine Ev.step (f := fun k => grp.l0 k (grpOf P b g) nets (grpOf P b g) ((grpOf P b g).length : Int) 0 best) (fun k => by simp only [grp.f]; rw [if_pos (by omega)]) ?_
    have h := leaf_tells nets (grpOf P b g) best (by rw [grpOf_len]; have := hrg.le; omega) (fun o ho => ⟨by have := (grpOf_mem ho).1; omega, fun x hx => hin x ((grpOf_mem ho).2 x hx)⟩)
    rw [ways, List.foldl_cons, List.foldl_nil]
    unfold stepI
    rw [hrg.ct, Int.toNat_natCast]
    exact h
  | d + 1, b, g, best, hb, hrg => by
    have hg := hrg.le
    have hwl : wrap64 (((grpOf P b g).length : Int) + 1) = ((g + 1 : Nat) : Int) := by rw [grpOf_len]; exact w_i (show g < 7 by omega) (by omega)
    have hwa : wrap64 ((b.length : Int) + 1) = ((b.length + 1 : Nat) : Int) := w_i (show b.length < 7 by omega) (by omega)
    refine Ev.step (f := fun k => grp.l2 k (grpOf P b g) (b.length : Int) P nets ((g + 1 : Nat) : Int) 0 best) (fun k => by simp only [grp.f]; rw [if_neg (by omega), hwl]) ?_
    rw [ways, fold_flatten]
    refine ev_foldI (F := fun k i s => grp.l2 k (grpOf P b g) (b.length : Int) P nets ((g + 1 : Nat) : Int) i s) (List.range (g + 1)) 0 (fun s (j : Nat) => (ways d (b ++ [(j : Int)]) (max g (j + 1))).foldl (stepI P nets) s) (fun s => s) (fun _ _ => True) (fun _ _ _ _ => trivial) (fun j s r hj _ h => ?_) (fun s _ => Ev.step (fun k => by simp only [grp.l2, List.length_range]; rw [if_neg (by omega)]) (Ev.now _)) best trivial
    rw [List.length_range] at hj
    have h1 : (List.range (g + 1)).getD j 0 = j := by rw [getD_lt (by rw [List.length_range]; exact hj)]; simp
    rw [h1] at h
    have hrec := tree_tells P nets hP hin d (b ++ [(j : Int)]) (max g (j + 1)) s (by rw [List.length_append, List.length_singleton]; omega) (hrg.snoc (by omega) (by omega))
    rw [List.length_append, List.length_singleton] at hrec
    generalize (ways d (b ++ [(j : Int)]) (max g (j + 1))).foldl (stepI P nets) s = s' at h hrec
    refine Ev.step (f := fun k => grp.l3 k (grpOf P b g) (b.length : Int) P nets j [] ((g + 1 : Nat) : Int) j (grpOf P b g) ((grpOf P b g).length : Int) 0 s) (fun k => by simp only [grp.l2]; rw [if_pos (by omega)]) ?_
    refine ev_run (F := fun k i acc => grp.l3 k (grpOf P b g) (b.length : Int) P nets j acc ((g + 1 : Nat) : Int) j (grpOf P b g) ((grpOf P b g).length : Int) i s) (grpOf P b g) [] (fun acc x => acc ++ [x]) (fun i acc => acc.length = i) (fun i acc hi hI => by simp [hI]) (fun i acc r hi hI h => ?_) [] rfl r (fun _ => ?_)
    · have hm := (grpOf_mem (List.getElem_mem hi)).1
      have hrd : rd_L5 (grpOf P b g) (i : Int) = (grpOf P b g).getD i [] := rfl
      rw [← getD_lt hi []] at hm
      have hi2 : (i : Int) < ((grpOf P b g).length : Int) := by omega
      rw [grpOf_len] at hi
      refine Ev.step (fun k => ?_) h
      simp only [grp.l3]
      rw [if_pos hi2, if_pos (by omega), if_pos hi2, hrd, w_i (show i < 7 by omega) (by omega)]
      unfold cloneInt.f
      rw [if_pos (by omega)]
      simp only [Option.bind_some]
      rw [if_pos (by omega)]
    · rw [fold_snoc, List.nil_append]
      have hlast : ∀ ys : List (List Int), ys.length = max g (j + 1) → (∀ o ∈ ys, o.length ≤ 6) → ys.set j (ys.getD j [] ++ [P.getD b.length 0]) = grpOf P (b ++ [(j : Int)]) (max g (j + 1)) → Ev (fun k => if 0 ≤ (j : Int) then (if (j : Int) < (ys.length : Int) then (if 0 ≤ (b.length : Int) then (if (b.length : Int) < (P.length : Int) then (if (rd_L5 ys j).length < 17592186044416 then ((grp.f k (ys.set ((j : Int)).toNat ((rd_L5 ys j) ++ [rd P b.length])) (wrap64 ((b.length : Int) + 1)) P nets s).bind fun t230 => (grp.l2 k (grpOf P b g) (b.length : Int) P nets ((g + 1 : Nat) : Int) (wrap64 ((j : Int) + 1)) t230)) else none) else none) else none) else none) else none) r := by
        intro ys hy hol he
        have hrd : rd_L5 ys (j : Int) = ys.getD j [] := rfl
        have hrp : rd P (b.length : Int) = P.getD b.length 0 := rfl
        have hol' := hol (ys.getD j []) (by rw [getD_lt (by omega)]; exact List.getElem_mem (by omega))
        simp only [hrd, hrp, Int.toNat_natCast, he, hwa]
        simp only [if_pos (show (0 : Int) ≤ (j : Int) by omega), if_pos (show (j : Int) < (ys.length : Int) by omega), if_pos (show (0 : Int) ≤ (b.length : Int) by omega), if_pos (show (b.length : Int) < (P.length : Int) by omega), if_pos (show (ys.getD j []).length < 17592186044416 by omega), w_i (show j < 7 by omega) (by omega)]
        exact Ev.bind hrec h
      have hol : ∀ o ∈ grpOf P b g, o.length ≤ 6 := fun o ho => by have := (grpOf_mem ho).1; omega
      by_cases hc : j = g
      · subst hc
        have hm : max j (j + 1) = j + 1 := by omega
        refine Ev.step (fun k => ?_) (hlast (grpOf P b j ++ [[]]) (by simp [grpOf_len, hm]) (fun o ho => by rcases List.mem_append.1 ho with ho | ho; exact hol o ho; rw [List.mem_singleton.1 ho]; simp) (by
          have e0 : (grpOf P b j ++ [[]]).getD j [] = [] := by
            have hq : (grpOf P b j ++ [[]]).length = j + 1 := by simp [grpOf_len]
            rw [getD_lt (by omega)]
            rw [List.getElem_append_right (by rw [grpOf_len]; omega)]
            simp [grpOf_len]
          rw [e0, hm]
          exact (grpOf_new (by omega) hrg.lo).symm))
        simp only [grp.l3]
        rw [if_neg (by omega), if_pos (by rw [grpOf_len])]
        rw [if_pos (by rw [grpOf_len]; omega)]
        simp only [Option.bind_some]
      · have hm : max g (j + 1) = g := by omega
        refine Ev.step (fun k => ?_) (hlast (grpOf P b g) (by rw [grpOf_len, hm]) hol (by
          rw [hm]
          exact (grpOf_set (by omega) (by omega)).symm))
        simp only [grp.l3]
        rw [if_neg (by omega), if_neg (by rw [grpOf_len]; omega)]
/-! ### D. Both find the same groups -/
theorem gsum_isum (nets : List Int) (g : Nat) : ∀ (P a : List Int) (s : Int), ((P.map (rd nets)).zip a).foldl (gstep g) s = (((P.zip a).filter fun p => p.2 == (g : Int)).map Prod.fst).foldl (fun s x => wrap64 (s + rd nets x)) s
  | [], _, _ => by simp
  | _ :: _, [], _ => by simp
  | x :: P, y :: a, s => by
    rw [List.map_cons, List.zip_cons_cons, List.zip_cons_cons, List.foldl_cons, gsum_isum nets g P a]
    unfold gstep
    by_cases h : y = (g : Int)
    · rw [if_pos h, List.filter_cons_of_pos (by simpa using h), List.map_cons, List.foldl_cons]
    · rw [if_neg h, List.filter_cons_of_neg (by simpa using h)]
theorem gsum_none (own : List Int) (a : List Int) (g : Nat) (h : ∀ x ∈ a, x < (g : Int)) (j : Nat) (hj : g ≤ j) (s : Int) : (own.zip a).foldl (gstep j) s = s := by
  have : ∀ (L : List (Int × Int)), (∀ p ∈ L, p.2 ≠ (j : Int)) → ∀ s, L.foldl (gstep j) s = s := by
    intro L
    induction L with
    | nil => intro _ _; rfl
    | cons p L ih =>
      intro hp s
      rw [List.foldl_cons, ih (fun q hq => hp q (List.mem_cons_of_mem _ hq))]
      unfold gstep
      rw [if_neg (hp p List.mem_cons_self)]
  refine this _ (fun p hp e => ?_) s
  have := h p.2 (List.of_mem_zip (show (p.1, p.2) ∈ own.zip a from hp)).2
  omega
theorem all_iff_range {q : Int → Bool} {l : List Int} : l.all q = true ↔ ∀ j, j < l.length → q (l.getD j 0) = true := by
  rw [List.all_eq_true]
  constructor
  · intro h j hj
    rw [getD_lt hj]
    exact h _ (List.getElem_mem hj)
  · intro h x hx
    obtain ⟨j, hj, rfl⟩ := List.getElem_of_mem hx
    have := h j hj
    rwa [getD_lt hj] at this
theorem good_eq (P nets a : List Int) (g : Nat) (ha : a.length = P.length) (hrg : RG a g) : goodS (P.map (rd nets)) a = ((grpOf P a g).all fun o => isum nets o == 0) := by
  have hsl : (sums (P.map (rd nets)) a).length = P.length + 1 := by unfold sums; rw [sums_len]; simp
  have hat : ∀ j, j < P.length + 1 → (sums (P.map (rd nets)) a).getD j 0 = ((P.map (rd nets)).zip a).foldl (gstep j) 0 := by
    intro j hj
    unfold sums
    rw [sums_at _ _ (fun p hp => by
      have := hrg.lo p.2 (List.of_mem_zip (show (p.1, p.2) ∈ _ from hp)).2
      have := hrg.le
      simp
      omega) j (by simpa using hj)]
    congr 1
    simp [List.getD, List.getElem?_replicate]
    split <;> rfl
  have hle := hrg.le
  rw [Bool.eq_iff_iff]
  unfold goodS
  rw [all_iff_range, List.all_eq_true]
  constructor
  · intro h o ho
    obtain ⟨j, hj, rfl⟩ := List.mem_map.1 ho
    have hj := List.mem_range.1 hj
    have := h j (by omega)
    rw [hat j (by omega), gsum_isum] at this
    exact this
  · intro h j hj
    rw [hat j (by omega)]
    by_cases hc : j < g
    · rw [gsum_isum]
      exact h _ (List.mem_map.2 ⟨j, List.mem_range.2 hc, rfl⟩)
    · rw [gsum_none _ a g (fun x hx => (hrg.lo x hx).2) j (by omega)]
      rfl
/-- What both have found: the numbers of the groups, or none. -/
structure Fnd (P nets : List Int) (s : List Int × Int) (t : List (List Int)) : Prop where
  eqn : t = grpOf P s.1 s.2.toNat
  len : s.2 = (t.length : Int)
  rg : RG s.1 s.2.toNat
  all : s.1.length = P.length ∨ s = ([], 0)
  good : ∀ o ∈ t, isum nets o = 0
theorem found (P nets : List Int) : ∀ (W : List (List Int)), (∀ a ∈ W, (∃ g, RG a g) ∧ a.length = P.length) → ∀ s t, Fnd P nets s t → Fnd P nets (W.foldl (stepS (P.map (rd nets))) s) (W.foldl (stepI P nets) t)
  | [], _, _, _, h => h
  | a :: W, hW, s, t, h => by
    refine found P nets W (fun b hb => hW b (List.mem_cons_of_mem _ hb)) _ _ ?_
    obtain ⟨⟨g, hrg⟩, hal⟩ := hW a List.mem_cons_self
    unfold stepS stepI leafI
    rw [hrg.ct, Int.toNat_natCast, good_eq P nets a g hal hrg, grpOf_len, ← h.len]
    cases hq : (grpOf P a g).all fun o => isum nets o == 0
    · simpa using h
    · simp only [if_true]
      by_cases hc : (g : Int) > s.2
      · rw [if_pos hc, if_pos hc]
        exact ⟨by simp, by simp [grpOf_len], by simpa using hrg, Or.inl hal, fun o ho => by simpa using List.all_eq_true.1 hq o ho⟩
      · rw [if_neg hc, if_neg hc]
        exact h
theorem found0 (P nets : List Int) : Fnd P nets ([], 0) [] := ⟨rfl, rfl, RG.nil, Or.inr rfl, by simp⟩
/-! ### E. The payments of one group -/
def upd (h : Int → Int) (f v : Int) : Int → Int := fun x => if x = f then v else h x
theorem sum_upd (h : Int → Int) (f v : Int) : ∀ O : List Int, O.Nodup → (f ∈ O → (O.map (upd h f v)).sum = (O.map h).sum + v - h f) ∧ (f ∉ O → O.map (upd h f v) = O.map h)
  | [], _ => ⟨by simp, by simp⟩
  | x :: O, hn => by
    obtain ⟨hx, hn⟩ := List.nodup_cons.1 hn
    have ih := sum_upd h f v O hn
    constructor
    · intro hf
      rw [List.map_cons, List.map_cons, List.sum_cons, List.sum_cons]
      by_cases e : x = f
      · subst e
        rw [ih.2 hx]
        unfold upd
        rw [if_pos rfl]
        omega
      · have hf' : f ∈ O := by rcases List.mem_cons.1 hf with h | h; exact absurd h.symm e; exact h
        rw [ih.1 hf']
        have : upd h f v x = h x := if_neg e
        omega
    · intro hf
      rw [List.map_cons, List.map_cons, ih.2 (fun h => hf (List.mem_cons_of_mem _ h))]
      have : upd h f v x = h x := if_neg (fun e => hf (by rw [e]; exact List.mem_cons_self))
      rw [this]
def nzf (h : Int → Int) (O : List Int) : Nat := (O.filter fun x => h x != 0).length
theorem nz_upd (h : Int → Int) (f v : Int) : ∀ O : List Int, O.Nodup → (f ∈ O → nzf (upd h f v) O + (if h f ≠ 0 then 1 else 0) = nzf h O + (if v ≠ 0 then 1 else 0)) ∧ (f ∉ O → nzf (upd h f v) O = nzf h O)
  | [], _ => ⟨by simp, by simp [nzf]⟩
  | x :: O, hn => by
    obtain ⟨hx, hn⟩ := List.nodup_cons.1 hn
    have ih := nz_upd h f v O hn
    have hc : ∀ k : Int → Int, nzf k (x :: O) = (if k x ≠ 0 then 1 else 0) + nzf k O := by
      intro k
      unfold nzf
      rw [List.filter_cons]
      by_cases e : k x = 0
      · simp [e]
      · simp [e]; omega
    rw [hc, hc]
    constructor
    · intro hf
      by_cases e : x = f
      · subst e
        rw [ih.2 hx]
        have : upd h x v x = v := if_pos rfl
        rw [this]
        omega
      · have hf' : f ∈ O := by rcases List.mem_cons.1 hf with h | h; exact absurd h.symm e; exact h
        have h1 := ih.1 hf'
        have : upd h f v x = h x := if_neg e
        rw [this]
        omega
    · intro hf
      rw [ih.2 (fun h => hf (List.mem_cons_of_mem _ h))]
      have : upd h f v x = h x := if_neg (fun e => hf (by rw [e]; exact List.mem_cons_self))
      rw [this]
theorem nz_zero {h : Int → Int} {O : List Int} : nzf h O = 0 ↔ ∀ x ∈ O, h x = 0 := by
  unfold nzf
  rw [List.length_eq_zero_iff, List.filter_eq_nil_iff]
  simp
theorem sum_nonpos (h : Int → Int) : ∀ O : List Int, (∀ x ∈ O, h x ≤ 0) → (O.map h).sum ≤ 0 ∧ ((O.map h).sum = 0 → ∀ x ∈ O, h x = 0)
  | [], _ => by simp
  | x :: O, hO => by
    have ih := sum_nonpos h O (fun y hy => hO y (List.mem_cons_of_mem _ hy))
    have hx := hO x List.mem_cons_self
    rw [List.map_cons, List.sum_cons]
    refine ⟨by omega, fun e y hy => ?_⟩
    rcases List.mem_cons.1 hy with rfl | hy
    · omega
    · exact ih.2 (by omega) y hy
theorem rd_set {l : List Int} {f x v : Int} (hf : 0 ≤ f) (hfl : f < (l.length : Int)) (hx : 0 ≤ x) : rd (l.set f.toNat v) x = if x = f then v else rd l x := by
  unfold rd
  by_cases e : x = f
  · subst e; rw [if_pos rfl, getD_set_self (by omega)]
  · rw [if_neg e]
    have : f.toNat ≠ x.toNat := by omega
    simp [List.getD, List.getElem?_set_ne this]
/-- The nets, as far as they go. -/
structure LI (P left : List Int) (m : Nat) : Prop where
  len : left.length = m
  bnd : ∀ x ∈ P, -1000000000 ≤ rd left x ∧ rd left x ≤ 1000000000
open Few
theorem rd_put {left : List Int} {f t a x : Int} (hf : 0 ≤ f) (hfl : f < (left.length : Int)) (ht : 0 ≤ t) (htl : t < (left.length : Int)) (hx : 0 ≤ x) : rd (put left f t a) x = upd (upd (rd left) f (wrap64 (rd left f + a))) t (wrap64 (rd left t - a)) x := by
  unfold put upd
  rw [rd_set ht (by simpa using htl) hx, rd_set hf hfl hx]
theorem step_law {P O left : List Int} {m : Nat} {f t : Int} (hP : ∀ x ∈ P, 0 ≤ x ∧ x < (m : Int)) (hO : ∀ x ∈ O, x ∈ P) (hn : O.Nodup) (hl : LI P left m) (hf : f ∈ O) (ht : t ∈ O) (h1 : rd left f < 0) (h2 : 0 < rd left t) :
    ∃ a, amount left f t = a ∧ 1 ≤ a ∧ a ≤ 1000000000 ∧ LI P (put left f t a) m ∧ (O.map (rd (put left f t a))).sum = (O.map (rd left)).sum ∧ nzf (rd (put left f t a)) O + 1 ≤ nzf (rd left) O ∧ nzf (rd left) O ≤ nzf (rd (put left f t a)) O + 2 ∧
      (∀ x, 0 ≤ x → x ≠ f → x ≠ t → rd (put left f t a) x = rd left x) ∧ (∀ x ∈ P, rd (put left f t a) x < 0 → rd left x < 0) ∧ (∀ x ∈ P, 0 < rd (put left f t a) x → 0 < rd left x) := by
  have hfP := hP f (hO f hf)
  have htP := hP t (hO t ht)
  have bf := hl.bnd f (hO f hf)
  have bt := hl.bnd t (hO t ht)
  have hne : f ≠ t := fun e => by rw [e] at h1; omega
  have hlen := hl.len
  obtain ⟨a, ha⟩ : ∃ a, amount left f t = a := ⟨_, rfl⟩
  have hneg : wrap64 (-(rd left f)) = -(rd left f) := w_id (by omega) (by omega)
  have ha' := ha
  unfold amount mn at ha'
  rw [hneg] at ha'
  have hab : 1 ≤ a ∧ a ≤ -(rd left f) ∧ a ≤ rd left t ∧ (a = -(rd left f) ∨ a = rd left t) := by
    split at ha' <;> omega
  have w1 : wrap64 (rd left f + a) = rd left f + a := w_id (by omega) (by omega)
  have w2 : wrap64 (rd left t - a) = rd left t - a := w_id (by omega) (by omega)
  have hr : ∀ x, 0 ≤ x → rd (put left f t a) x = upd (upd (rd left) f (rd left f + a)) t (rd left t - a) x := by
    intro x hx
    rw [rd_put hfP.1 (by omega) htP.1 (by omega) hx, w1, w2]
  have hmap : O.map (rd (put left f t a)) = O.map (upd (upd (rd left) f (rd left f + a)) t (rd left t - a)) := List.map_congr_left fun x hx => hr x (hP x (hO x hx)).1
  have hnz : nzf (rd (put left f t a)) O = nzf (upd (upd (rd left) f (rd left f + a)) t (rd left t - a)) O := by
    unfold nzf
    congr 1
    exact List.filter_congr fun x hx => by rw [hr x (hP x (hO x hx)).1]
  have hut : upd (rd left) f (rd left f + a) t = rd left t := if_neg (Ne.symm hne)
  refine ⟨a, ha, hab.1, by omega, ⟨by simp [put, hlen], fun x hx => ?_⟩, ?_, ?_, ?_, ?_, ?_, ?_⟩
  · rw [hr x (hP x hx).1]
    have := hl.bnd x hx
    unfold upd
    split
    · omega
    · split <;> omega
  · rw [hmap, (sum_upd _ t _ O hn).1 ht, (sum_upd _ f _ O hn).1 hf, hut]
    omega
  · rw [hnz]
    have e1 := (nz_upd (upd (rd left) f (rd left f + a)) t (rd left t - a) O hn).1 ht
    have e2 := (nz_upd (rd left) f (rd left f + a) O hn).1 hf
    rw [hut] at e1
    rw [if_pos (show rd left t ≠ 0 by omega)] at e1
    rw [if_pos (show rd left f ≠ 0 by omega)] at e2
    rcases hab.2.2.2 with h | h
    · rw [if_neg (show ¬ (rd left f + a ≠ 0) by omega)] at e2
      split at e1 <;> omega
    · rw [if_neg (show ¬ (rd left t - a ≠ 0) by omega)] at e1
      split at e2 <;> omega
  · rw [hnz]
    have e1 := (nz_upd (upd (rd left) f (rd left f + a)) t (rd left t - a) O hn).1 ht
    have e2 := (nz_upd (rd left) f (rd left f + a) O hn).1 hf
    rw [hut] at e1
    rw [if_pos (show rd left t ≠ 0 by omega)] at e1
    rw [if_pos (show rd left f ≠ 0 by omega)] at e2
    omega
  · intro x hx hxf hxt
    rw [hr x hx]
    unfold upd
    rw [if_neg hxt, if_neg hxf]
  · intro x hx h
    rw [hr x (hP x hx).1] at h
    unfold upd at h
    by_cases e1 : x = t
    · rw [if_pos e1] at h; omega
    · rw [if_neg e1] at h
      by_cases e2 : x = f
      · rw [e2]; exact h1
      · rwa [if_neg e2] at h
  · intro x hx h
    rw [hr x (hP x hx).1] at h
    unfold upd at h
    by_cases e1 : x = t
    · rw [e1]; exact h2
    · rw [if_neg e1] at h
      by_cases e2 : x = f
      · rw [if_pos e2] at h; omega
      · rwa [if_neg e2] at h
theorem wk_of (p : Nat → Bool) (n : Nat) : ((List.range n).find? p = none ∧ wkFirst p n = -1) ∨ ∃ j : Nat, j < n ∧ (List.range n).find? p = some j ∧ wkFirst p n = (j : Int) := by
  unfold wkFirst
  cases h : (List.range n).find? p with
  | none => exact Or.inl ⟨rfl, rfl⟩
  | some j => exact Or.inr ⟨j, List.mem_range.1 (List.mem_of_find?_eq_some h), rfl, rfl⟩
theorem find_range {α : Type} (L : List α) (z : α) (q : α → Bool) : L.find? q = ((List.range L.length).find? fun j => q (L.getD j z)).map fun j => L.getD j z := by
  have h : (List.range L.length).map (fun j => L.getD j z) = L := by simpa using map_range L z id
  have h2 := List.find?_map (f := fun j => L.getD j z) (p := q) (l := List.range L.length)
  rw [h] at h2
  exact h2
theorem wk_list (O : List Int) (r : Int → Bool) : (O.find? r = none ∧ wkFirst (fun j => r (rd O (j : Int))) O.length = -1) ∨ ∃ f, O.find? r = some f ∧ 0 ≤ wkFirst (fun j => r (rd O (j : Int))) O.length ∧ rd O (wkFirst (fun j => r (rd O (j : Int))) O.length) = f := by
  have h := find_range O 0 r
  rcases wk_of (fun j => r (rd O (j : Int))) O.length with ⟨h1, h2⟩ | ⟨j, hj, h1, h2⟩
  · left
    refine ⟨?_, h2⟩
    rw [h]
    show ((List.range O.length).find? fun (j : Nat) => r (rd O (j : Int))).map _ = none
    rw [h1]
    rfl
  · right
    refine ⟨O.getD j 0, ?_, by rw [h2]; omega, by rw [h2]; rfl⟩
    rw [h]
    show ((List.range O.length).find? fun (j : Nat) => r (rd O (j : Int))).map _ = _
    rw [h1]
    rfl
def memb (P a : List Int) (g : Nat) : List Int := ((P.zip a).filter fun p => p.2 == (g : Int)).map Prod.fst
theorem wk_zip (P a : List Int) (g : Nat) (r : Int → Bool) (ha : a.length = P.length) : ((memb P a g).find? r = none ∧ wkFirst (fun j => (rd a (j : Int) == (g : Int)) && r (rd P (j : Int))) P.length = -1) ∨ ∃ f, (memb P a g).find? r = some f ∧ 0 ≤ wkFirst (fun j => (rd a (j : Int) == (g : Int)) && r (rd P (j : Int))) P.length ∧ wkFirst (fun j => (rd a (j : Int) == (g : Int)) && r (rd P (j : Int))) P.length < (P.length : Int) ∧ rd P (wkFirst (fun j => (rd a (j : Int) == (g : Int)) && r (rd P (j : Int))) P.length) = f := by
  have hz : (P.zip a).length = P.length := by rw [List.length_zip]; omega
  have h : (memb P a g).find? r = ((List.range P.length).find? fun (j : Nat) => (rd a (j : Int) == (g : Int)) && r (rd P (j : Int))).map fun j => P.getD j 0 := by
    unfold memb
    rw [List.find?_map, List.find?_filter, find_range (P.zip a) (0, 0), hz, Option.map_map]
    have e : ∀ j, j < P.length → (P.zip a).getD j (0, 0) = (rd P (j : Int), rd a (j : Int)) := fun j hj => zip_at (by omega) (by omega)
    have e2 : ∀ j : Nat, j < P.length → decide ((((P.zip a).getD j (0, 0)).2 == (g : Int)) = true ∧ (r ∘ Prod.fst) ((P.zip a).getD j (0, 0)) = true) = ((rd a (j : Int) == (g : Int)) && r (rd P (j : Int))) := by
      intro j hj
      rw [e j hj]
      show decide ((rd a (j : Int) == (g : Int)) = true ∧ r (rd P (j : Int)) = true) = _
      cases (rd a (j : Int) == (g : Int)) <;> cases r (rd P (j : Int)) <;> rfl
    have hp : ((List.range P.length).find? fun (j : Nat) => decide ((((P.zip a).getD j (0, 0)).2 == (g : Int)) = true ∧ (r ∘ Prod.fst) ((P.zip a).getD j (0, 0)) = true)) = (List.range P.length).find? fun (j : Nat) => (rd a (j : Int) == (g : Int)) && r (rd P (j : Int)) := by
      have : ∀ (l : List Nat), (∀ j ∈ l, j < P.length) → (l.find? fun (j : Nat) => decide ((((P.zip a).getD j (0, 0)).2 == (g : Int)) = true ∧ (r ∘ Prod.fst) ((P.zip a).getD j (0, 0)) = true)) = l.find? fun (j : Nat) => (rd a (j : Int) == (g : Int)) && r (rd P (j : Int)) := by
        intro l
        induction l with
        | nil => intro _; rfl
        | cons j l ih =>
          intro hl
          rw [List.find?_cons, List.find?_cons, ih (fun i hi => hl i (List.mem_cons_of_mem _ hi)), e2 j (hl j List.mem_cons_self)]
      exact this _ fun j hj => List.mem_range.1 hj
    rw [hp]
    rcases hq : (List.range P.length).find? fun (j : Nat) => (rd a (j : Int) == (g : Int)) && r (rd P (j : Int)) with _ | j
    · rfl
    · have hj := List.mem_range.1 (List.mem_of_find?_eq_some hq)
      simp only [Option.map_some, Function.comp, e j hj]
      rfl
  rcases wk_of (fun j => (rd a (j : Int) == (g : Int)) && r (rd P (j : Int))) P.length with ⟨h1, h2⟩ | ⟨j, hj, h1, h2⟩
  · left
    exact ⟨by rw [h, h1]; rfl, h2⟩
  · right
    exact ⟨P.getD j 0, by rw [h, h1]; rfl, by rw [h2]; omega, by rw [h2]; omega, by rw [h2]; rfl⟩
theorem wk_succ (p : Nat → Bool) (i : Nat) : wkFirst p (i + 1) = if wkFirst p i < 0 ∧ p i = true then (i : Int) else wkFirst p i := by
  unfold wkFirst
  rw [List.range_succ, List.find?_append]
  cases h : (List.range i).find? p with
  | some j => simp only [Option.some_or]; rw [if_neg (by omega)]
  | none =>
    simp only [Option.none_or]
    rw [List.find?_cons, List.find?_nil]
    cases p i <;> simp
theorem memb_sub {P a : List Int} {g : Nat} : ∀ x ∈ memb P a g, x ∈ P := fun x hx => by
  obtain ⟨p, hp, rfl⟩ := List.mem_map.1 hx
  exact (List.of_mem_zip (List.mem_filter.1 hp).1).1
theorem zip_fst : ∀ (P a : List Int), a.length = P.length → (P.zip a).map Prod.fst = P
  | [], _, _ => by simp
  | x :: P, [], h => by simp at h
  | x :: P, y :: a, h => by
    rw [List.zip_cons_cons, List.map_cons, zip_fst P a (by simpa using h)]
theorem memb_nodup {P a : List Int} {g : Nat} (h : P.Nodup) (ha : a.length = P.length) : (memb P a g).Nodup := by
  have h1 : (memb P a g).Sublist ((P.zip a).map Prod.fst) := List.Sublist.map _ List.filter_sublist
  rw [zip_fst P a ha] at h1
  exact List.Pairwise.sublist h1 h
theorem nodup_inj {l : List Int} (h : l.Nodup) {i j : Nat} (hi : i < l.length) (hj : j < l.length) (e : l[i] = l[j]) : i = j := by
  have hp := List.pairwise_iff_getElem.1 h
  rcases Nat.lt_trichotomy i j with hl | hl | hl
  · exact absurd e (hp i j hi hj hl)
  · exact hl
  · exact absurd e.symm (hp j i hj hi hl)
theorem map_put {P : List Int} (h : Int → Int) (hn : P.Nodup) {i j : Nat} (hi : i < P.length) (hj : j < P.length) (hij : i ≠ j) (u v : Int) : ((P.map h).set i u).set j v = P.map (upd (upd h P[i] u) P[j] v) := by
  apply List.ext_getElem
  · simp
  · intro k h1 h2
    have hk : k < P.length := by simpa using h2
    rw [List.getElem_set, List.getElem_set, List.getElem_map, List.getElem_map]
    unfold upd
    by_cases e1 : j = k
    · subst e1; rw [if_pos rfl, if_pos rfl]
    · rw [if_neg e1, if_neg (fun e => e1 (nodup_inj hn hk hj e).symm)]
      by_cases e2 : i = k
      · subst e2; rw [if_pos rfl, if_pos rfl]
      · rw [if_neg e2, if_neg (fun e => e2 (nodup_inj hn hk hi e).symm)]
theorem rd_map {P : List Int} (h : Int → Int) {j : Int} (h0 : 0 ≤ j) (h1 : j < (P.length : Int)) : rd (P.map h) j = h (rd P j) := by
  unfold rd
  rw [getD_lt (by simp; omega), getD_lt (by omega), List.getElem_map]
def pn (left P a : List Int) (g : Nat) (j : Nat) : Bool := (rd a (j : Int) == (g : Int)) && decide (rd left (rd P (j : Int)) < 0)
def pp (left P a : List Int) (g : Nat) (j : Nat) : Bool := (rd a (j : Int) == (g : Int)) && decide (0 < rd left (rd P (j : Int)))
abbrev L3 (k : Nat) (P a left : List Int) (cnt : Int) (out : List Few.P) (g : Nat) (p q : Int) (i : Int) := spec_FewestPayments.l3 k P (P.map (rd left)) a cnt out g p q i
theorem scan_step (P a left : List Int) (g : Nat) (cnt : Int) (out : List Few.P) (ha : a.length = P.length) (h6 : P.length ≤ 6) (r : List Few.P × Int) (i : Nat) (hi : i < P.length) (p q : Int)
    (h : Ev (fun k => L3 k P a left cnt out g (if p < 0 ∧ pn left P a g i = true then (i : Int) else p) (if q < 0 ∧ pp left P a g i = true then (i : Int) else q) ((i + 1 : Nat) : Int)) r) : Ev (fun k => L3 k P a left cnt out g p q i) r := by
  have hlt : (i : Int) < ((P.map (rd left)).length : Int) := by simp; omega
  have hla : (i : Int) < (a.length : Int) := by omega
  have hrm := rd_map (P := P) (rd left) (j := (i : Int)) (by omega) (by omega)
  have hw : wrap64 ((i : Int) + 1) = ((i + 1 : Nat) : Int) := w_i (show i < 7 by omega) (by omega)
  unfold pn pp at h
  unfold L3 at h ⊢
  by_cases hg : rd a (i : Int) = (g : Int)
  · have hg2 : (rd a (i : Int) == (g : Int)) = true := by simpa using hg
    rw [hg2] at h
    simp only [Bool.true_and, decide_eq_true_eq] at h
    generalize rd left (rd P (i : Int)) = x at hrm h
    by_cases hx : x < 0
    · refine Ev.step (f := fun k => spec_FewestPayments.j4 k P (P.map (rd left)) a cnt out g p q (i : Int) (decide (p < 0))) (fun k => by simp only [spec_FewestPayments.l3]; rw [if_pos hlt, if_pos (by omega), if_pos hla, if_pos hg, hrm, if_pos hx]) ?_
      rw [if_neg (show ¬ (q < 0 ∧ 0 < x) by omega)] at h
      by_cases hp : p < 0
      · rw [if_pos ⟨hp, hx⟩] at h
        refine Ev.step (fun k => ?_) h
        simp only [spec_FewestPayments.j4]
        rw [if_pos (decide_eq_true hp), hw]
      · rw [if_neg (show ¬ (p < 0 ∧ x < 0) by omega)] at h
        refine Ev.step (fun k => ?_) h
        simp only [spec_FewestPayments.j4]
        rw [decide_eq_false hp, if_neg Bool.false_ne_true, if_pos (by omega), if_pos hlt, hrm, if_neg (by omega), hw]
    · rw [if_neg (show ¬ (p < 0 ∧ x < 0) by omega)] at h
      refine Ev.step (f := fun k => spec_FewestPayments.j4 k P (P.map (rd left)) a cnt out g p q (i : Int) false) (fun k => by simp only [spec_FewestPayments.l3]; rw [if_pos hlt, if_pos (by omega), if_pos hla, if_pos hg, hrm, if_neg hx]) ?_
      by_cases h0 : 0 < x
      · by_cases hq : q < 0
        · rw [if_pos ⟨hq, h0⟩] at h
          refine Ev.step (fun k => ?_) h
          simp only [spec_FewestPayments.j4]
          rw [if_neg Bool.false_ne_true, if_pos (by omega), if_pos hlt, hrm, if_pos h0, if_pos hq, hw]
        · rw [if_neg (show ¬ (q < 0 ∧ 0 < x) by omega)] at h
          refine Ev.step (fun k => ?_) h
          simp only [spec_FewestPayments.j4]
          rw [if_neg Bool.false_ne_true, if_pos (by omega), if_pos hlt, hrm, if_pos h0, if_neg hq, hw]
      · rw [if_neg (show ¬ (q < 0 ∧ 0 < x) by omega)] at h
        refine Ev.step (fun k => ?_) h
        simp only [spec_FewestPayments.j4]
        rw [if_neg Bool.false_ne_true, if_pos (by omega), if_pos hlt, hrm, if_neg h0, hw]
  · have hg2 : (rd a (i : Int) == (g : Int)) = false := by simpa using hg
    rw [hg2] at h
    simp only [Bool.false_and, Bool.false_eq_true, and_false, if_false] at h
    refine Ev.step (fun k => ?_) h
    simp only [spec_FewestPayments.l3]
    rw [if_pos hlt, if_pos (by omega), if_pos hla, if_neg hg, hw]
theorem scan_tells (P a left : List Int) (g : Nat) (cnt : Int) (out : List Few.P) (ha : a.length = P.length) (h6 : P.length ≤ 6) (r : List Few.P × Int)
    (hend : Ev (fun k => L3 k P a left cnt out g (wkFirst (pn left P a g) P.length) (wkFirst (pp left P a g) P.length) (P.length : Int)) r) : Ev (fun k => spec_FewestPayments.l2 k P (P.map (rd left)) a cnt out g) r := by
  refine Ev.step (f := fun k => spec_FewestPayments.l3 k P (P.map (rd left)) a cnt out g (-1) (-1) 0) (fun k => by simp only [spec_FewestPayments.l2]) ?_
  have key : ∀ d i, i + d = P.length → Ev (fun k => L3 k P a left cnt out g (wkFirst (pn left P a g) i) (wkFirst (pp left P a g) i) (i : Int)) r := by
    intro d
    induction d with
    | zero =>
      intro i hi
      obtain rfl : i = P.length := by omega
      exact hend
    | succ d ih =>
      intro i hi
      have h := ih (i + 1) (by omega)
      rw [wk_succ, wk_succ] at h
      exact scan_step P a left g cnt out ha h6 r i (by omega) _ _ h
  exact key P.length 0 (by omega)
/-- What the payments of one group are. -/
structure NP (O left left' : List Int) (new : List Few.P) : Prop where
  n0 : nzf (rd left) O = 0 → new = []
  n1 : 0 < nzf (rd left) O → new.length + 1 ≤ nzf (rd left) O
  n2 : nzf (rd left) O ≤ 2 * new.length
  each : ∀ p ∈ new, ∃ f t, f ∈ O ∧ t ∈ O ∧ rd left f < 0 ∧ 0 < rd left t ∧ p = pay f t p.f2 ∧ 1 ≤ p.f2 ∧ p.f2 ≤ 1000000000
  fold : left' = new.foldl (fun l p => put l p.f0 p.f1 p.f2) left
theorem i8_id {x : Int} (h0 : 0 ≤ x) (h1 : x < 100) : IntKind.i8.wrap x = x := by
  unfold IntKind.wrap
  simp [IntKind.bits]
  omega
theorem inner_runs {P a : List Int} {g m : Nat} {cnt : Int} (hP : ∀ x ∈ P, 0 ≤ x ∧ x < (m : Int)) (hm : m ≤ 6) (hn : P.Nodup) (h6 : P.length ≤ 6) (ha : a.length = P.length) (hg6 : g ≤ 6) :
    ∀ (d : Nat) (left : List Int) (out : List Few.P), nzf (rd left) (memb P a g) ≤ d → LI P left m → ((memb P a g).map (rd left)).sum = 0 → out.length + d ≤ 100 →
      ∃ (left' : List Int) (new : List Few.P), (∀ k, d + 1 ≤ k → inner k (memb P a g) left out = some (left', out ++ new)) ∧
        (∀ r, Ev (fun k => spec_FewestPayments.l1 k P (P.map (rd left')) a cnt (out ++ new) ((g + 1 : Nat) : Int)) r → Ev (fun k => spec_FewestPayments.l2 k P (P.map (rd left)) a cnt out (g : Int)) r) ∧
        LI P left' m ∧ (∀ x ∈ memb P a g, rd left' x = 0) ∧ (∀ x ∈ P, x ∉ memb P a g → rd left' x = rd left x) ∧ NP (memb P a g) left left' new := by
  have hO := fun x => memb_sub (P := P) (a := a) (g := g) x
  have hOn := memb_nodup (g := g) hn ha
  have hfit : ∀ left : List Int, left.length = m → fits left (memb P a g) = true := fun left hl => List.all_eq_true.2 fun x hx => by
    have := hP x (hO x hx)
    simp
    omega
  have hw : wrap64 ((g : Int) + 1) = ((g + 1 : Nat) : Int) := w_i (show g < 7 by omega) (by omega)
  /- Nothing is owed: both go on. -/
  have stop : ∀ (left : List Int) (out : List Few.P), LI P left m → (memb P a g).find? (fun x => decide (rd left x < 0)) = none → (∀ k, 1 ≤ k → inner k (memb P a g) left out = some (left, out)) ∧
      (∀ r, Ev (fun k => spec_FewestPayments.l1 k P (P.map (rd left)) a cnt out ((g + 1 : Nat) : Int)) r → Ev (fun k => spec_FewestPayments.l2 k P (P.map (rd left)) a cnt out (g : Int)) r) := by
    intro left out hl hf
    refine ⟨fun k hk => ?_, fun r h => ?_⟩
    · obtain ⟨k, rfl⟩ : ∃ k', k = k' + 1 := ⟨k - 1, by omega⟩
      rcases wk_list (memb P a g) (fun x => decide (rd left x < 0)) with ⟨_, h2⟩ | ⟨f, h1, _⟩
      · have h2' : wkFirst (neg left (memb P a g)) (memb P a g).length = -1 := h2
        rw [inner, if_pos (hfit left hl.len), h2', if_pos (by omega)]
      · rw [hf] at h1; cases h1
    · refine scan_tells P a left g cnt out ha h6 r ?_
      rcases wk_zip P a g (fun x => decide (rd left x < 0)) ha with ⟨_, h2⟩ | ⟨f, h1, _⟩
      · have h2' : wkFirst (pn left P a g) P.length = -1 := h2
        rw [h2']
        refine Ev.step (fun k => ?_) h
        simp only [L3, spec_FewestPayments.l3]
        rw [if_neg (by simp), if_pos (by omega), hw]
      · rw [hf] at h1; cases h1
  intro d
  induction d with
  | zero =>
    intro left out hd hl hs ho
    have hz := nz_zero.1 (Nat.le_zero.1 hd)
    obtain ⟨h1, h2⟩ := stop left out hl (by
      rw [List.find?_eq_none]
      intro x hx
      rw [hz x hx]
      decide)
    refine ⟨left, [], fun k hk => ?_, fun r h => h2 r (by simpa using h), hl, hz, fun _ _ _ => rfl, ⟨fun _ => rfl, fun h => by omega, by omega, by simp, rfl⟩⟩
    rw [h1 k (by omega), List.append_nil]
  | succ d ih =>
    intro left out hd hl hs ho
    rcases wk_list (memb P a g) (fun x => decide (rd left x < 0)) with ⟨hnone, _⟩ | ⟨f, hf, hf0, hfr⟩
    · obtain ⟨h1, h2⟩ := stop left out hl hnone
      have hz : ∀ x ∈ memb P a g, rd left x = 0 := by
        have h3 : ∀ x ∈ memb P a g, -(rd left x) ≤ 0 := fun x hx => by
          have := List.find?_eq_none.1 hnone x hx
          simp at this
          omega
        have h4 := (sum_nonpos (fun x => -(rd left x)) (memb P a g) h3).2 (by
          have : ∀ l : List Int, (l.map fun x => -(rd left x)).sum = -((l.map (rd left)).sum) := by
            intro l
            induction l with
            | nil => rfl
            | cons x l ih => rw [List.map_cons, List.map_cons, List.sum_cons, List.sum_cons, ih]; omega
          rw [this, hs]; rfl)
        intro x hx
        have := h4 x hx
        omega
      have hnz := nz_zero.2 hz
      refine ⟨left, [], fun k hk => ?_, fun r h => h2 r (by simpa using h), hl, hz, fun _ _ _ => rfl, ⟨fun _ => rfl, fun h => by omega, by omega, by simp, rfl⟩⟩
      rw [h1 k (by omega), List.append_nil]
    · have hfO := List.mem_of_find?_eq_some hf
      have hfneg : rd left f < 0 := by simpa using List.find?_some hf
      obtain ⟨t, ht⟩ : ∃ t, (memb P a g).find? (fun x => decide (0 < rd left x)) = some t := by
        cases hq : (memb P a g).find? (fun x => decide (0 < rd left x)) with
        | some t => exact ⟨t, rfl⟩
        | none =>
          have h3 : ∀ x ∈ memb P a g, rd left x ≤ 0 := fun x hx => by
            have := List.find?_eq_none.1 hq x hx
            simp at this
            omega
          have := (sum_nonpos (rd left) _ h3).2 hs f hfO
          omega
      have htO := List.mem_of_find?_eq_some ht
      have htpos : 0 < rd left t := by simpa using List.find?_some ht
      obtain ⟨v, hv, hv1, hv2, hl', hs', hz1, hz2, hoth, hng, hps⟩ := step_law hP hO hOn hl hfO htO hfneg htpos
      have hfP := hP f (hO f hfO)
      have htP := hP t (hO t htO)
      have hne : f ≠ t := fun e => by rw [e] at hfneg; omega
      obtain ⟨left', new, i1, i2, i3, i4, i5, i6⟩ := ih (put left f t v) (out ++ [pay f t v]) (by omega) hl' (by rw [hs', hs]) (by simp; omega)
      refine ⟨left', pay f t v :: new, fun k hk => ?_, fun r h => ?_, i3, i4, fun x hx hxO => ?_, ⟨fun h => by omega, fun _ => ?_, ?_, fun p hp => ?_, ?_⟩⟩
      · obtain ⟨k, rfl⟩ : ∃ k', k = k' + 1 := ⟨k - 1, by omega⟩
        have hi := i1 k (by omega)
        rcases wk_list (memb P a g) (fun x => decide (0 < rd left x)) with ⟨hn2, _⟩ | ⟨t', ht', ht0, htr⟩
        · rw [ht] at hn2; cases hn2
        · obtain rfl : t = t' := by rw [ht] at ht'; exact Option.some.inj ht'
          have e1 : wkFirst (neg left (memb P a g)) (memb P a g).length = wkFirst (fun j => decide (rd left (rd (memb P a g) (j : Int)) < 0)) (memb P a g).length := rfl
          have e2 : wkFirst (pos left (memb P a g)) (memb P a g).length = wkFirst (fun j => decide (0 < rd left (rd (memb P a g) (j : Int)))) (memb P a g).length := rfl
          rw [inner, if_pos (hfit left hl.len), e1, e2, if_neg (by omega), if_neg (by omega), if_pos (by omega), hfr, htr, hv, hi, List.append_assoc]
          rfl
      · refine scan_tells P a left g cnt out ha h6 r ?_
        rcases wk_zip P a g (fun x => decide (rd left x < 0)) ha with ⟨hn2, _⟩ | ⟨f', hf', p0, p1, pr⟩
        · rw [hf] at hn2; cases hn2
        obtain rfl : f = f' := by rw [hf] at hf'; exact Option.some.inj hf'
        rcases wk_zip P a g (fun x => decide (0 < rd left x)) ha with ⟨hn2, _⟩ | ⟨t', ht', q0, q1, qr⟩
        · rw [ht] at hn2; cases hn2
        obtain rfl : t = t' := by rw [ht] at ht'; exact Option.some.inj ht'
        have e1 : wkFirst (pn left P a g) P.length = wkFirst (fun j => (rd a (j : Int) == (g : Int)) && decide (rd left (rd P (j : Int)) < 0)) P.length := rfl
        have e2 : wkFirst (pp left P a g) P.length = wkFirst (fun j => (rd a (j : Int) == (g : Int)) && decide (0 < rd left (rd P (j : Int)))) P.length := rfl
        rw [e1, e2]
        generalize wkFirst (fun j => (rd a (j : Int) == (g : Int)) && decide (rd left (rd P (j : Int)) < 0)) P.length = pi at p0 p1 pr
        generalize wkFirst (fun j => (rd a (j : Int) == (g : Int)) && decide (0 < rd left (rd P (j : Int)))) P.length = qi at q0 q1 qr
        have hpq : pi ≠ qi := fun e => hne (by rw [← pr, ← qr, e])
        have o1 : rd (P.map (rd left)) pi = rd left f := by rw [rd_map _ p0 p1, pr]
        have o2 : rd (P.map (rd left)) qi = rd left t := by rw [rd_map _ q0 q1, qr]
        have hm1 : spec_l00Min.f (wrap64 (-(rd left f))) (rd left t) = some v := by
          unfold amount mn at hv
          unfold spec_l00Min.f
          by_cases c : wrap64 (-(rd left f)) < rd left t
          · rw [if_pos c]; rw [if_neg (by omega)] at hv; rw [hv]
          · rw [if_neg c]
            by_cases c2 : rd left t < wrap64 (-(rd left f))
            · rw [if_pos c2] at hv; rw [hv]
            · rw [if_neg c2] at hv; rw [← hv]; congr 1; omega
        have hPp : P[pi.toNat]'(by omega) = f := by rw [← pr]; unfold rd; rw [getD_lt (by omega)]
        have hPq : P[qi.toNat]'(by omega) = t := by rw [← qr]; unfold rd; rw [getD_lt (by omega)]
        have hset : ((P.map (rd left)).set pi.toNat (wrap64 (rd left f + v))).set qi.toNat (wrap64 (rd left t - v)) = P.map (rd (put left f t v)) := by
          rw [map_put (rd left) hn (show pi.toNat < P.length by omega) (show qi.toNat < P.length by omega) (by omega), hPp, hPq]
          refine List.map_congr_left fun x hx => ?_
          rw [rd_put hfP.1 (by rw [hl.len]; exact hfP.2) htP.1 (by rw [hl.len]; exact htP.2) (hP x hx).1]
        have ro : rd ((P.map (rd left)).set pi.toNat (wrap64 (rd left f + v))) qi = rd left t := by
          rw [rd_set p0 (by simp; omega) q0, if_neg (Ne.symm hpq), o2]
        have hnext := i2 r (by rw [List.append_assoc]; exact h)
        refine Ev.step (fun k => ?_) hnext
        simp only [L3, spec_FewestPayments.l3]
        rw [if_neg (by simp), if_neg (by omega), if_pos p0, if_pos (by simp; omega), if_pos q0, if_pos (by simp; omega), o1, o2, hm1]
        simp only [Option.bind_some]
        rw [ro, hset, if_pos p1, if_pos q1, if_pos (by omega), pr, qr]
        rfl
      · rw [i5 x hx hxO, hoth x (hP x hx).1 (fun e => hxO (by rw [e]; exact hfO)) (fun e => hxO (by rw [e]; exact htO))]
      · rw [List.length_cons]
        rcases Nat.eq_zero_or_pos (nzf (rd (put left f t v)) (memb P a g)) with h0 | h0
        · rw [i6.n0 h0, List.length_nil]
          /- the last payment settles two -/
          have := nz_zero.1 h0
          have h2 : 2 ≤ nzf (rd left) (memb P a g) := by
            have e1 := (nz_upd (rd left) f 0 (memb P a g) hOn).1 hfO
            have e2 := (nz_upd (upd (rd left) f 0) t 0 (memb P a g) hOn).1 htO
            rw [show upd (rd left) f 0 t = rd left t from if_neg (Ne.symm hne)] at e2
            rw [if_pos (show rd left f ≠ 0 by omega)] at e1
            rw [if_pos (show rd left t ≠ 0 by omega)] at e2
            simp at e1 e2
            omega
          omega
        · have := i6.n1 h0
          omega
      · rw [List.length_cons]
        have := i6.n2
        omega
      · rcases List.mem_cons.1 hp with rfl | hp
        · exact ⟨f, t, hfO, htO, hfneg, htpos, rfl, hv1, hv2⟩
        · obtain ⟨f2, t2, a1, a2, a3, a4, a5⟩ := i6.each p hp
          exact ⟨f2, t2, a1, a2, hng f2 (hO f2 a1) a3, hps t2 (hO t2 a2) a4, a5⟩
      · rw [List.foldl_cons]
        have hw1 := i8_id hfP.1 (by omega)
        have hw2 := i8_id htP.1 (by omega)
        show left' = new.foldl _ (put left (IntKind.i8.wrap f) (IntKind.i8.wrap t) v)
        rw [hw1, hw2]
        exact i6.fold
theorem mem_memb {P a : List Int} {g : Nat} (ha : a.length = P.length) {x : Int} (h : x ∈ memb P a g) : ∃ k : Nat, ∃ hk : k < P.length, P[k] = x ∧ rd a (k : Int) = (g : Int) := by
  obtain ⟨p, hp, rfl⟩ := List.mem_map.1 h
  obtain ⟨hp, hg⟩ := List.mem_filter.1 hp
  obtain ⟨k, hk, rfl⟩ := List.getElem_of_mem hp
  have hk' : k < P.length := by rw [List.length_zip] at hk; omega
  refine ⟨k, hk', ?_, ?_⟩
  · rw [List.getElem_zip]
  · rw [List.getElem_zip] at hg
    unfold rd
    rw [Int.toNat_natCast, getD_lt (by omega)]
    simpa using hg
theorem memb_disj {P a : List Int} {i j : Nat} (hn : P.Nodup) (ha : a.length = P.length) {x : Int} (h1 : x ∈ memb P a i) (h2 : x ∈ memb P a j) : i = j := by
  obtain ⟨k1, hk1, e1, g1⟩ := mem_memb ha h1
  obtain ⟨k2, hk2, e2, g2⟩ := mem_memb ha h2
  have := nodup_inj hn hk1 hk2 (e1.trans e2.symm)
  subst this
  omega
def tot (left P a : List Int) : Nat → Nat → Nat
  | _, 0 => 0
  | j, e + 1 => nzf (rd left) (memb P a j) + tot left P a (j + 1) e
theorem nzf_congr {h k : Int → Int} {O : List Int} (e : ∀ x ∈ O, h x = k x) : nzf h O = nzf k O := by
  unfold nzf
  congr 1
  exact List.filter_congr fun x hx => by rw [e x hx]
theorem tot_congr {left left1 P a : List Int} : ∀ (e j : Nat), (∀ i, j ≤ i → i < j + e → ∀ x ∈ memb P a i, rd left1 x = rd left x) → tot left1 P a j e = tot left P a j e
  | 0, _, _ => rfl
  | e + 1, j, h => by
    rw [tot, tot, nzf_congr (h j (Nat.le_refl _) (by omega)), tot_congr e (j + 1) (fun i h1 h2 => h i (by omega) (by omega))]
/-- What all payments are. -/
structure AP (P left left' : List Int) (N : Nat) (new : List Few.P) : Prop where
  n1 : 0 < N → new.length + 1 ≤ N
  n0 : N = 0 → new = []
  n2 : N ≤ 2 * new.length
  each : ∀ p ∈ new, ∃ f t, f ∈ P ∧ t ∈ P ∧ rd left f < 0 ∧ 0 < rd left t ∧ p = pay f t p.f2 ∧ 1 ≤ p.f2 ∧ p.f2 ≤ 1000000000
  fold : left' = new.foldl (fun l p => put l p.f0 p.f1 p.f2) left
theorem nzf_le (h : Int → Int) (O : List Int) : nzf h O ≤ O.length := List.length_filter_le _ _
theorem memb_len {P a : List Int} {g : Nat} : (memb P a g).length ≤ P.length := by
  unfold memb
  rw [List.length_map]
  refine Nat.le_trans (List.length_filter_le _ _) ?_
  rw [List.length_zip]
  omega
theorem outer_runs {P a : List Int} {c m : Nat} (hP : ∀ x ∈ P, 0 ≤ x ∧ x < (m : Int)) (hm : m ≤ 6) (hn : P.Nodup) (h6 : P.length ≤ 6) (ha : a.length = P.length) (hc : c ≤ 6) :
    ∀ (e j : Nat) (left : List Int) (out : List Few.P), j + e = c → LI P left m → (∀ i, j ≤ i → i < c → ((memb P a i).map (rd left)).sum = 0) → out.length + 6 * e ≤ 90 →
      ∃ (left' : List Int) (new : List Few.P), (∀ k, 7 ≤ k → outer k ((grpOf P a c).drop j) left out = some (out ++ new)) ∧
        Ev (fun k => spec_FewestPayments.l1 k P (P.map (rd left)) a (c : Int) out (j : Int)) (out ++ new, (0 : Int)) ∧
        LI P left' m ∧ (∀ i, j ≤ i → i < c → ∀ x ∈ memb P a i, rd left' x = 0) ∧ (∀ x ∈ P, (∀ i, j ≤ i → i < c → x ∉ memb P a i) → rd left' x = rd left x) ∧ AP P left left' (tot left P a j e) new := by
  intro e
  induction e with
  | zero =>
    intro j left out hj hl _ _
    obtain rfl : j = c := by omega
    refine ⟨left, [], fun k _ => ?_, ?_, hl, fun i h1 h2 => by omega, fun _ _ _ => rfl, ⟨fun h => by simp [tot] at h, fun _ => rfl, by simp [tot], by simp, rfl⟩⟩
    · rw [List.drop_of_length_le (by rw [grpOf_len]; exact Nat.le_refl _), outer, List.append_nil]
    · refine Ev.step (f := fun _ => some (out, (0 : Int))) (fun k => ?_) (by rw [List.append_nil]; exact Ev.now _)
      simp only [spec_FewestPayments.l1]
      rw [if_neg (by omega)]
  | succ e ih =>
    intro j left out hj hl hs ho
    have hnz := Nat.le_trans (nzf_le (rd left) (memb P a j)) memb_len
    obtain ⟨left1, new1, a1, a2, a3, a4, a5, a6⟩ := inner_runs (cnt := (c : Int)) hP hm hn h6 ha (show j ≤ 6 by omega) 6 left out (by omega) hl (hs j (Nat.le_refl _) (by omega)) (by omega)
    have hsame : ∀ i, j + 1 ≤ i → i < c → ∀ x ∈ memb P a i, rd left1 x = rd left x := fun i h1 h2 x hx => a5 x (memb_sub x hx) (fun h => by have := memb_disj hn ha hx h; omega)
    have hl1 : new1.length ≤ 6 := by
      rcases Nat.eq_zero_or_pos (nzf (rd left) (memb P a j)) with h0 | h0
      · rw [a6.n0 h0]; simp
      · have := a6.n1 h0; omega
    obtain ⟨left2, new2, b1, b2, b3, b4, b5, b6⟩ := ih (j + 1) left1 (out ++ new1) (by omega) a3 (fun i h1 h2 => by
      rw [show (memb P a i).map (rd left1) = (memb P a i).map (rd left) from List.map_congr_left (fun x hx => hsame i h1 h2 x hx)]
      exact hs i (by omega) h2) (by rw [List.length_append]; omega)
    have htot : tot left1 P a (j + 1) e = tot left P a (j + 1) e := tot_congr e (j + 1) (fun i h1 h2 => hsame i h1 (by omega))
    refine ⟨left2, new1 ++ new2, fun k hk => ?_, ?_, b3, fun i h1 h2 x hx => ?_, fun x hx hni => ?_, ⟨fun h => ?_, fun h => ?_, ?_, fun p hp => ?_, ?_⟩⟩
    · have hg : j < (grpOf P a c).length := by rw [grpOf_len]; omega
      rw [List.drop_eq_getElem_cons hg, outer, show (grpOf P a c)[j] = memb P a j by rw [← getD_lt hg [], grpOf_at P a (by omega)]; rfl, a1 k (by omega)]
      simp only [Option.bind_some]
      rw [b1 k hk, List.append_assoc]
    · refine Ev.step (f := fun k => spec_FewestPayments.l2 k P (P.map (rd left)) a (c : Int) out (j : Int)) (fun k => by simp only [spec_FewestPayments.l1]; rw [if_pos (by omega)]) ?_
      refine a2 _ ?_
      rw [← List.append_assoc]
      exact b2
    · by_cases hij : i = j
      · subst hij
        rw [b5 x (memb_sub x hx) (fun i2 h3 h4 h5 => by have := memb_disj hn ha hx h5; omega)]
        exact a4 x hx
      · exact b4 i (by omega) h2 x hx
    · rw [b5 x hx (fun i h1 h2 => hni i (by omega) h2), a5 x hx (hni j (Nat.le_refl _) (by omega))]
    · rw [tot, List.length_append] at *
      rw [htot] at b6
      rcases Nat.eq_zero_or_pos (nzf (rd left) (memb P a j)) with h0 | h0
      · rw [a6.n0 h0, List.length_nil]
        have := b6.n1 (by omega)
        omega
      · have h1 := a6.n1 h0
        rcases Nat.eq_zero_or_pos (tot left P a (j + 1) e) with h2 | h2
        · rw [b6.n0 h2, List.length_nil]; omega
        · have := b6.n1 h2; omega
    · rw [tot] at h
      rw [htot] at b6
      rw [a6.n0 (by omega), b6.n0 (by omega)]
      rfl
    · rw [tot, List.length_append]
      rw [htot] at b6
      have := a6.n2
      have := b6.n2
      omega
    · rcases List.mem_append.1 hp with hp | hp
      · obtain ⟨f, t, h1, h2, h3⟩ := a6.each p hp
        exact ⟨f, t, memb_sub f h1, memb_sub t h2, h3⟩
      · obtain ⟨f, t, h1, h2, h3, h4, h5⟩ := b6.each p hp
        have key : ∀ x ∈ P, rd left1 x = rd left x ∨ rd left1 x = 0 := fun x hx => by
          by_cases hm : x ∈ memb P a j
          · exact Or.inr (a4 x hm)
          · exact Or.inl (a5 x hx hm)
        refine ⟨f, t, h1, h2, ?_, ?_, h5⟩
        · rcases key f h1 with h | h <;> omega
        · rcases key t h2 with h | h <;> omega
    · rw [List.foldl_append, ← a6.fold]
      exact b6.fold
/-! ### F. The whole -/
theorem parts_mem (l : List Int) : ∀ (n : Nat) (x : Int), x ∈ parts l n ↔ (0 ≤ x ∧ x < (n : Int) ∧ rd l x ≠ 0)
  | 0, x => by
    rw [parts]
    constructor
    · intro h; simp at h
    · intro h; omega
  | n + 1, x => by
    have ih := parts_mem l n x
    rw [parts]
    by_cases c : (rd l (n : Int) != 0) = true
    · rw [if_pos c, List.mem_append, List.mem_singleton, ih]
      constructor
      · rintro (h | rfl)
        · exact ⟨h.1, by omega, h.2.2⟩
        · exact ⟨by omega, by omega, by simpa using c⟩
      · rintro ⟨h1, h2, h3⟩
        by_cases e : x = (n : Int)
        · exact Or.inr e
        · exact Or.inl ⟨h1, by omega, h3⟩
    · rw [if_neg c, ih]
      constructor
      · rintro ⟨h1, h2, h3⟩; exact ⟨h1, by omega, h3⟩
      · rintro ⟨h1, h2, h3⟩
        by_cases e : x = (n : Int)
        · subst e; simp at c; exact absurd c h3
        · exact ⟨h1, by omega, h3⟩
theorem parts_nodup (l : List Int) : ∀ n, (parts l n).Nodup
  | 0 => List.nodup_nil
  | n + 1 => by
    rw [parts]
    split
    · rw [List.nodup_append]
      refine ⟨parts_nodup l n, by simp, fun x hx y hy e => ?_⟩
      rw [List.mem_singleton.1 hy] at e
      have := (parts_mem l n x).1 hx
      omega
    · exact parts_nodup l n
theorem isum_sum (nets : List Int) : ∀ (O : List Int) (s : Int), (∀ x ∈ O, -1000000000 ≤ rd nets x ∧ rd nets x ≤ 1000000000) → -1000000000000 ≤ s - 1000000000 * (O.length : Int) → s + 1000000000 * (O.length : Int) ≤ 1000000000000 → O.foldl (fun s x => wrap64 (s + rd nets x)) s = s + (O.map (rd nets)).sum
  | [], s, _, _, _ => by simp
  | x :: O, s, hb, h1, h2 => by
    have hx := hb x List.mem_cons_self
    rw [List.length_cons] at h1 h2
    have w : wrap64 (s + rd nets x) = s + rd nets x := w_id (by omega) (by omega)
    rw [List.foldl_cons, w, isum_sum nets O (s + rd nets x) (fun y hy => hb y (List.mem_cons_of_mem _ hy)) (by omega) (by omega), List.map_cons, List.sum_cons]
    omega
theorem fold_sum : ∀ (l : List Int) (s : Int), (∀ x ∈ l, -1000000000 ≤ x ∧ x ≤ 1000000000) → -1000000000000 ≤ s - 1000000000 * (l.length : Int) → s + 1000000000 * (l.length : Int) ≤ 1000000000000 → l.foldl (fun s x => wrap64 (s + x)) s = s + l.sum
  | [], s, _, _, _ => by simp
  | x :: l, s, hb, h1, h2 => by
    have hx := hb x List.mem_cons_self
    rw [List.length_cons] at h1 h2
    have w : wrap64 (s + x) = s + x := w_id (by omega) (by omega)
    rw [List.foldl_cons, w, fold_sum l (s + x) (fun y hy => hb y (List.mem_cons_of_mem _ hy)) (by omega) (by omega), List.sum_cons]
    omega
theorem take_sum (l : List Int) : ∀ n, n ≤ l.length → ((parts l n).map (rd l)).sum = (l.take n).sum
  | 0, _ => by simp [parts]
  | n + 1, h => by
    have ih := take_sum l n (by omega)
    rw [List.take_succ_eq_append_getElem (by omega), List.sum_append, ← ih, parts]
    have e : rd l (n : Int) = l[n] := by unfold rd; rw [Int.toNat_natCast, getD_lt (by omega)]
    by_cases c : (rd l (n : Int) != 0) = true
    · rw [if_pos c, List.map_append, List.sum_append]
      simp [e]
    · rw [if_neg c]
      have : rd l (n : Int) = 0 := by simpa using c
      rw [this] at e
      simp [← e]
theorem zeros_mem : ∀ (d : Nat) (b : List Int) (g : Nat), b ++ List.replicate d 0 ∈ ways d b g
  | 0, b, g => by simp [ways]
  | d + 1, b, g => by
    rw [ways, List.mem_flatten]
    refine ⟨ways d (b ++ [((0 : Nat) : Int)]) (max g (0 + 1)), List.mem_map.2 ⟨0, List.mem_range.2 (by omega), rfl⟩, ?_⟩
    have := zeros_mem d (b ++ [((0 : Nat) : Int)]) (max g (0 + 1))
    rw [List.append_assoc] at this
    exact this
theorem zeros_rg : ∀ d : Nat, RG (List.replicate (d + 1) 0) 1
  | 0 => RG.nil.snoc (j := 0) (Nat.le_refl _) (by omega)
  | d + 1 => by
    have h := (zeros_rg d).snoc (j := 0) (by omega) (by omega)
    rw [List.replicate_succ']
    exact h
theorem most_ge (own : List Int) : ∀ (W : List (List Int)) (s : List Int × Int), s.2 ≤ (W.foldl (stepS own) s).2 ∧ ∀ a ∈ W, goodS own a = true → cntI a ≤ (W.foldl (stepS own) s).2
  | [], s => ⟨Int.le_refl _, by simp⟩
  | b :: W, s => by
    have ih := most_ge own W (stepS own s b)
    have h1 : s.2 ≤ (stepS own s b).2 ∧ (goodS own b = true → cntI b ≤ (stepS own s b).2) := by
      unfold stepS
      cases goodS own b
      · simp
      · simp only [if_true]
        by_cases c : cntI b > s.2
        · rw [if_pos c]; exact ⟨by simp; omega, fun _ => Int.le_refl _⟩
        · rw [if_neg c]; exact ⟨Int.le_refl _, fun _ => by omega⟩
    rw [List.foldl_cons]
    refine ⟨Int.le_trans h1.1 ih.1, fun a ha hg => ?_⟩
    rcases List.mem_cons.1 ha with rfl | ha
    · exact Int.le_trans (h1.2 hg) ih.1
    · exact ih.2 a ha hg
theorem memb_all : ∀ P : List Int, memb P (List.replicate P.length 0) 0 = P
  | [] => rfl
  | x :: P => by
    have ih := memb_all P
    unfold memb at ih ⊢
    rw [List.length_cons, List.replicate_succ, List.zip_cons_cons, List.filter_cons_of_pos (by simp), List.map_cons, ih]
theorem rd_bnd {l : List Int} (h : ∀ x ∈ l, -1000000000 ≤ x ∧ x ≤ 1000000000) (j : Int) : -1000000000 ≤ rd l j ∧ rd l j ≤ 1000000000 := by
  unfold rd
  by_cases c : j.toNat < l.length
  · rw [getD_lt c]; exact h _ (List.getElem_mem c)
  · simp [List.getD, List.getElem?_eq_none (Nat.not_lt.1 c)]
open Pay
structure NC (l0 : List Int) : Prop where
  n1 : 1 ≤ l0.length
  n6 : l0.length ≤ 6
  b : ∀ x ∈ l0, -1000000000 ≤ x ∧ x ≤ 1000000000
  s : l0.sum = 0
theorem netsC_zero {l0 : List Int} (h : netsC l0 = 0) : NC l0 := by
  unfold netsC at h
  split at h
  · rename_i h1
    split at h
    · rename_i h2
      split at h
      · rename_i h3
        have h6 := inB_iff.1 h1
        have hb : ∀ x ∈ l0, -1000000000 ≤ x ∧ x ≤ 1000000000 := fun x hx => by
          have := List.all_eq_true.1 h2 x hx
          exact inB_iff.1 this
        unfold netsSum at h3
        rw [fold_sum l0 0 hb (by omega) (by omega)] at h3
        exact ⟨by omega, by omega, hb, by omega⟩
      · omega
    · omega
  · omega
/-- What both answer. -/
theorem few_runs {l0 : List Int} (h : NC l0) : ∃ (a : List Int) (c : Nat) (left' : List Int) (new : List Few.P), a.length = (parts l0 l0.length).length ∧ RG a c ∧ c ≤ 6 ∧ Ev (fun k => spec_FewestPayments.l0 k l0 [] [] 0) (new, (0 : Int)) ∧ Ev (fun k => (impl_groupsOf.f k l0 (parts l0 l0.length)).bind fun gs => (outer k gs l0 []).bind fun o => some (o, (0 : Int))) (new, (0 : Int)) ∧
    LI (parts l0 l0.length) left' l0.length ∧ (∀ i, i < c → ∀ x ∈ memb (parts l0 l0.length) a i, rd left' x = 0) ∧ AP (parts l0 l0.length) l0 left' (tot l0 (parts l0 l0.length) a 0 c) new := by
  have hn1 := h.n1
  have hn6 := h.n6
  obtain ⟨P, hPd⟩ : ∃ P, P = parts l0 l0.length := ⟨_, rfl⟩
  have hPm : ∀ x ∈ P, 0 ≤ x ∧ x < (l0.length : Int) := fun x hx => by
    rw [hPd] at hx
    have := (parts_mem l0 l0.length x).1 hx
    exact ⟨this.1, this.2.1⟩
  have hPn : P.Nodup := by rw [hPd]; exact parts_nodup l0 _
  have hP6 : P.length ≤ 6 := by rw [hPd]; exact Nat.le_trans (parts_len l0 _) hn6
  have hsumP : (P.map (rd l0)).sum = 0 := by rw [hPd, take_sum l0 l0.length (Nat.le_refl _), List.take_length]; exact h.s
  have hg := groups_tells (P.map (rd l0)) (by simp; exact hP6)
  have ht := tree_tells P l0 hP6 hPm P.length [] 0 [] (by simp) RG.nil
  rw [List.length_map] at hg
  have hW : ∀ b ∈ ways P.length [] 0, (∃ g, RG b g) ∧ b.length = P.length := fun b hb => by
    have := ways_rg P.length [] 0 RG.nil (by omega) b hb
    simpa using this
  have hF := found P l0 (ways P.length [] 0) hW _ _ (found0 P l0)
  have hmost := (most_ge (P.map (rd l0)) (ways P.length [] 0) ([], 0)).2
  generalize (ways P.length [] 0).foldl (stepS (P.map (rd l0))) ([], 0) = s at hg hF hmost
  generalize (ways P.length [] 0).foldl (stepI P l0) [] = t at ht hF
  have hbig : ∀ O : List Int, O.length ≤ 6 → isum l0 O = (O.map (rd l0)).sum := fun O hO => by
    unfold isum
    rw [isum_sum l0 O 0 (fun x _ => rd_bnd h.b x) (by omega) (by omega)]
    omega
  have hal : s.1.length = P.length := by
    rcases hF.all with h1 | h1
    · exact h1
    · rcases Nat.eq_zero_or_pos P.length with h2 | h2
      · rw [h1, h2]; rfl
      · exfalso
        obtain ⟨d, hd⟩ : ∃ d, P.length = d + 1 := ⟨P.length - 1, by omega⟩
        have hz := zeros_mem P.length [] 0
        rw [List.nil_append] at hz
        have hrg := zeros_rg d
        rw [← hd] at hrg
        have hgood : goodS (P.map (rd l0)) (List.replicate P.length 0) = true := by
          rw [good_eq P l0 _ 1 (by simp) hrg, List.all_eq_true]
          intro o ho
          obtain ⟨j, hj, rfl⟩ := List.mem_map.1 ho
          obtain rfl : j = 0 := by have := List.mem_range.1 hj; omega
          have := memb_all P
          unfold memb at this
          rw [this, hbig P hP6, hsumP]
          rfl
        have := hmost _ hz hgood
        rw [hrg.ct, h1] at this
        simp at this
  obtain ⟨a, cI⟩ := s
  obtain ⟨c, hc⟩ : ∃ c : Nat, c = cI.toNat := ⟨_, rfl⟩
  have hrg := hF.rg
  have hlen := hF.len
  have heq := hF.eqn
  simp only at hrg hlen heq hal hg
  rw [← hc] at hrg heq
  have hcI : cI = (c : Int) := by rw [hc]; omega
  have hc6 : c ≤ 6 := by have := hrg.le; omega
  have hgz : ∀ i, 0 ≤ i → i < c → ((memb P a i).map (rd l0)).sum = 0 := fun i _ hi => by
    have := hF.good (memb P a i) (by rw [heq]; exact List.mem_map.2 ⟨i, List.mem_range.2 hi, rfl⟩)
    rwa [hbig _ (Nat.le_trans memb_len hP6)] at this
  obtain ⟨left', new, b1, b2, b3, b4, _, b6⟩ := outer_runs hPm hn6 hPn hP6 hal hc6 c 0 l0 [] (by omega) ⟨rfl, fun x _ => rd_bnd h.b x⟩ hgz (by simp; omega)
  rw [List.drop_zero, ← heq] at b1
  simp only [List.nil_append] at b1 b2
  refine ⟨a, c, left', new, by rw [hal, hPd], hrg, hc6, ?_, ?_, by rw [← hPd]; exact b3, by rw [← hPd]; exact fun i hi => b4 i (Nat.zero_le _) hi, by rw [← hPd]; exact b6⟩
  · have hst := ev_steps (F := fun k i (st : List Int × List Int) => spec_FewestPayments.l0 k l0 st.1 st.2 i) 0 l0.length (Nat.zero_le _) (fun i => (parts l0 i, (parts l0 i).map (rd l0))) (new, (0 : Int)) (fun i _ hi h => ?_) ?_
    · exact hst
    · have hpl := parts_len l0 i
      refine Ev.step (fun k => ?_) h
      simp only [spec_FewestPayments.l0]
      rw [if_pos (by omega), if_pos (by omega), w_i (show i < 7 by omega) (by omega)]
      rw [parts]
      by_cases e : rd l0 (i : Int) = 0
      · rw [if_pos e, if_neg (by simp [e])]
      · rw [if_neg e, if_pos (show (parts l0 i).length < 17592186044416 by omega), if_pos (show ((parts l0 i).map (rd l0)).length < 17592186044416 by rw [List.length_map]; omega), if_pos (show (rd l0 (i : Int) != 0) = true by simpa using e), List.map_append]
        rfl
    · refine Ev.step (f := fun k => (spec_l06Groups.f k (P.map (rd l0))).bind fun bt173 => spec_FewestPayments.l1 k P (P.map (rd l0)) bt173.1 bt173.2 [] 0) (fun k => by simp only [spec_FewestPayments.l0]; rw [if_neg (by omega), hPd]) ?_
      refine Ev.bind hg ?_
      rw [hcI]
      exact b2
  · unfold impl_groupsOf.f
    rw [← hPd]
    refine Ev.bind (a := t) (by simpa [grpOf] using ht) ?_
    refine ⟨7, fun k hk => ?_⟩
    show ((outer k t l0 []).bind fun o => some (o, (0 : Int))) = some (new, 0)
    rw [b1 k hk]
    rfl
end FewL
end Go.Proofs.Ytljkamjdpjaooaa.G
