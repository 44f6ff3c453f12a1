import Derived.Test.YtbhcdefemmpkpaaZG0
import Derived.Test.YtbhcdefemmpkpaaZWk
import Derived.Deep.AppendLies
namespace Go.Proofs.Ytbhcdefemmpkpaa.G
open Go.RowKit Go.Proofs.YtbhcdefemmpkpaaW.PrintWords Go.Proofs.YtbhcdefemmpkpaaW.PrintLast Go.Proofs.YtbhcdefemmpkpaaW.PrintMore
attribute [local go_sem] max2_int min2_int max_two min_two max_three min_three max_four min_four
set_option linter.unusedVariables false
set_option linter.unusedSimpArgs false
open Go.Proofs.Ytbhcdefemmpkpaa.Wk
namespace FO
section
variable {P : Program} {ops : Array Oper} {rest : List Oper} {o : Oper} {a : Act} {Q : Exit → Act → World → Prop} {α : Type}
theorem run_keeps (w : World) (base : Nat) (t ty e : TypeId) (i : TypeInfo) (z : Value) (bytes : Nat) (ht : P.underlying t = some (.slice e)) (hi : P.info? e = some i) (hz : i.zero = some z) (hby : i.bytes = bytes)
    (v : Value) (n : Nat) (xs : List Value) (hown : w.ownsRow base e i.size v n xs) (ad : Addr) (m c : Nat) (news : List Value) (hl : news.length = m * i.size) (hnews : ∀ j u, news[j]? = some u → w.cell? (ad.add j) = some u) (h1 : ∀ u ∈ news, u.oneCell' = true)
    (h63 : n + m ≤ maxLen) (hbytes : (n + m) * bytes ≤ 140737488355328) {v' : Value} {w' : World} (hr : (Builtin.append_ #[t, t] ty #[v, .slice (some ad) m c]).run P w = .ok v' w') (g cap : Nat) (hv : v = .slice (some ⟨g, 0, none⟩) n cap) (j : Nat) (hj : j < n * i.size) :
    w'.cell? ⟨g, j, none⟩ = w.cell? ⟨g, j, none⟩ := by
  subst hby; subst hv; have hsmall : n + m ≤ 9223372036854775807 := by simp only [maxLen] at h63; omega
  rcases hown.2 with ⟨h, _⟩ | ⟨g', cap', cur, h, hbg, hg, hnc, hcm, hcs, htake⟩
  · cases h
  · injection h with h2 _ h3
    injection h2 with h2
    injection h2 with h2
    subst h2; subst h3; by_cases hroom : n + m ≤ cap
    · have hfit : n * i.size + news.length ≤ cur.size := by rw [hl, hcs, ← Nat.add_mul]; exact Nat.mul_le_mul_right _ hroom
      have hr2 := run_append_room (P := P) w t ty e i ht hi g n cap cur hg ad m c news hl hnews h1 hroom hfit
      have e1 := (Result.ok.inj (hr.symm.trans hr2)).2
      rw [e1, cell_of_row _ g j _ e _ (setRow_heap w g cur _ e _ hg), cell_of_row w g j cur e _ hg]
      simp only [List.getElem?_toArray]
      rw [List.append_assoc, List.getElem?_append_left (by rw [List.length_take, Array.length_toList]; omega), List.getElem?_take, if_pos hj, Array.getElem?_toList]
    · have holds : ∀ j u, xs[j]? = some u → w.cell? ((⟨g, 0, none⟩ : Addr).add j) = some u := hown.cells (g := g) rfl
      have hr2 := run_append_grow (P := P) w t ty e i z ht hi hz ⟨g, 0, none⟩ n cap xs hown.1 holds ad m c news hl hnews (by omega) (by omega) (growslice_fits (by omega) hbytes)
      have e1 := (Result.ok.inj (hr.symm.trans hr2)).2
      rw [e1]
      exact (below_alloc (below_drew (Below.refl w.heap.size w)) _).cell (p := ⟨g, j, none⟩) (blk_lt hg)
theorem S_append_keep (d : Kd α) {w0 W : World} (base : Nat) (hgd : o.guard = none) (s x : Operand) (t e : TypeId) (z : Value) (bytes : Nat)
    (ho : o.op = .call { callee := .builtin .append, args := #[s, x], argTypes := #[t, t] })
    (ht : P.underlying t = some (.slice e)) (hinfo : (P.info? e).map (fun i => (i.zero, i.size, i.bytes)) = some (some z, d.sz, bytes)) (hz : z.cells.size = d.sz) (hs0 : 0 < d.sz) (hb0 : 0 < bytes)
    (v : Value) (xs : List α) (p : α) (cs : List Value) (ok okp : Nat → Prop) (hs : a.eval s = v) (hx : a.eval x = .slice (some ⟨W.heap.size, 0, none⟩) 1 1) (hp : d.M W base okp p cs) (hokp : ∀ k, okp k → ok k ∧ some k ≠ v.ownBlock) (hfresh : ∀ k, W.heap.size ≤ k → ok k)
    (HO : Kd.S d e W base (fun k => ok k ∧ ¬ okp k) v xs) (HB : Below base w0 W) (hbase : base ≤ W.heap.size) (hl : (xs.length + 1) * bytes ≤ 140737488355328)
    (h : ∀ v1 w1, Kd.S d e w1 base ok v1 (xs ++ [p]) → Below base w0 w1 → W.grownBy w1 v.ownBlock → (v1.ownBlock = v.ownBlock ∨ ∃ b, v1.ownBlock = some b ∧ W.heap.size ≤ b) →
      (∀ g cap, v = .slice (some ⟨g, 0, none⟩) xs.length cap → g < W.heap.size → ∀ j, j < xs.length * d.sz → w1.cell? ⟨g, j, none⟩ = W.cell? ⟨g, j, none⟩) → wpList P ops Q rest (a.put o.dst v1) w1) :
    wpList P ops Q (o :: rest) a (W.alloc (.cells cs.toArray e)) := by
  obtain ⟨f, hf, hR⟩ := Kd.S_tag HO xs.length okp (fun _ hk h2 => h2.2 hk)
  have hR := Kd.R_mono hR (ok' := ok) (fun _ hk => hk.1)
  obtain ⟨h0, inner, hown, hr⟩ := hR
  obtain ⟨i0, hi, hzz⟩ := Option.map_eq_some_iff.1 hinfo
  simp only [Prod.mk.injEq] at hzz
  obtain ⟨hz0, hz1, hz2⟩ := hzz
  have hys := d.K_len (d.K_of_M hp)
  have h1 := d.K_one (d.K_of_M hp)
  have hlz : xs.zipIdx.length = xs.length := List.length_zipIdx
  rw [hlz] at hown
  have hlen : xs.length + 1 ≤ 140737488355328 := Nat.le_trans (Nat.le_mul_of_pos_right _ hb0) hl
  have hown0 : (W.alloc (.cells cs.toArray e)).ownsRow base e d.sz v xs.length inner := hown.alloc _
  have hnews : ∀ j u, cs[j]? = some u → (W.alloc (.cells cs.toArray e)).cell? ((⟨W.heap.size, 0, none⟩ : Addr).add j) = some u := by simpa using World.news_of_block (cs := cs.toArray) (t := e) (fr := (0, 0)) (heap_alloc_new W (.cells cs.toArray e))
  obtain ⟨v1, w1, hrun, hown1, hg1, _, hat1⟩ := run_append_own_at (P := P) (W.alloc (.cells cs.toArray e)) base t o.type e i0 z d.sz bytes ht hi hz0 hz1 hz2 hz hs0 v xs.length inner hown0 ⟨W.heap.size, 0, none⟩ 1 1 cs (by rw [hys]; simp) hnews h1 (by simp only [maxLen]; omega) hl (by simp; omega)
  have hk := run_keeps (P := P) (W.alloc (.cells cs.toArray e)) base t o.type e i0 z bytes ht hi hz0 hz2 v xs.length inner (by rw [hz1]; exact hown0) ⟨W.heap.size, 0, none⟩ 1 1 cs (by rw [hys, hz1]; simp) hnews h1 (by simp only [maxLen]; omega) hl hrun
  have hg2 : W.grownBy w1 v.ownBlock := World.grownBy.trans (World.grownBy_alloc W _ _) hg1
  have hat2 : v1.ownBlock = v.ownBlock ∨ ∃ b, v1.ownBlock = some b ∧ W.heap.size ≤ b := by
    rcases hat1 with hat | hat
    · exact .inl hat
    · exact .inr ⟨_, hat, by simp⟩
  have hb1 : Below base w0 w1 := (HB.alloc hbase _).grown hg1 (by simp; omega) (own_base hown)
  have hS := Kd.R_appended (d := Kd.tag f d) (p := (p, xs.length)) (cs := cs) (okp := okp) h0 hr (d.M_mono (fun k hk => ⟨hk, hf k hk⟩) hp) hokp hfresh (by rw [hlz]; exact hown1) hg2 hat2
  rw [← Kd.zip_snoc] at hS
  refine Kd.event_run hgd (w1 := w1) (v := v1) ?_ (h v1 w1 ⟨f, hS⟩ hb1 hg2 hat2 (fun g cap hv hgl j hj => ?_))
  · unfold execOp
    simp only [ho, resolve, invoke, builtin, Sem.run_bind, Sem.run_pure, Result.andThen_ok, List.map_toArray, List.map_cons, List.map_nil, hs, hx, hrun]
  · rw [hk g cap hv j (by rw [hz1]; exact hj)]
    exact (below_alloc (Below.refl W.heap.size W) _).cell (p := ⟨g, j, none⟩) hgl
end
abbrev I := Kd.int .i64
abbrev RI (W : World) (base : Nat) (v : Value) (xs : List Int) : Prop := Kd.R (Kd.int .i64) 2 W base (fun _ => True) v xs
def Old (W : World) (base : Nat) (A : Option Addr) (n : Nat) (ys : List (List Int)) : Prop :=
  ys.length ≤ n ∧ ∀ j, j < ys.length → ∃ g a c, A = some ⟨g, 0, none⟩ ∧ W.cell? ⟨g, j, none⟩ = some (.slice a (ys.getD j []).length c) ∧ RI W base (.slice a (ys.getD j []).length c) (ys.getD j [])
theorem Old.start {W : World} {base n c : Nat} {ok : Nat → Prop} {A : Option Addr} {xs : List (List Int)} (h : Kd.S (Kd.slice 2 I) 33 W base ok (.slice A n c) xs) {m : Nat} (hm : m ≤ xs.length) : Old W base A xs.length (xs.take m) := by
  refine ⟨by rw [List.length_take]; omega, fun j hj => ?_⟩
  have hj' : j < xs.length ∧ j < m := by rw [List.length_take] at hj; omega
  have e : (xs.take m).getD j [] = xs.getD j [] := by
    simp only [List.getD]
    rw [List.getElem?_take, if_pos hj'.2]
  rw [e]
  obtain ⟨g, cap, eA, _⟩ := Kd.S_form h (by omega)
  injection eA with e1 e2 e3
  subst e1; subst e2; subst e3; obtain ⟨oki, ce, hcl, hM, hcc, hfr, hoki, hH⟩ := Kd.S_elem h [] (j : Int) (by omega) (by omega)
  obtain ⟨u, rfl, hR⟩ := hM
  have hx0 := hcc 0 _ rfl
  simp only [Int.toNat_natCast] at hR hx0
  rw [show ((Kd.slice 2 I)).sz = 1 from rfl, Nat.mul_one, Nat.add_zero] at hx0
  obtain ⟨a, c2, rfl⟩ := Kd.R_slice hR
  exact ⟨g, a, c2, rfl, hx0, Kd.R_mono hR (fun _ _ => trivial)⟩
theorem Old.kept {W W2 W3 : World} {base n : Nat} {A : Option Addr} {ys : List (List Int)} {S : Nat → Prop} (h : Old W base A n ys) (hb : Below W.heap.size W W2) (hk : Kept W2 W3 S) (hS : ∀ k, S k → W.heap.size ≤ k) : Old W3 base A n ys := by
  refine ⟨h.1, fun j hj => ?_⟩
  obtain ⟨g, a, c, e, hc, hR⟩ := h.2 j hj
  have hlt := World.block_lt_of_cell? W _ hc
  exact ⟨g, a, c, e, cell_kept (pw_cell_below hb hc) hk (fun hs => absurd (hS _ hs) (Nat.not_le.2 hlt)), Kd.R_mono (Kd.R_kept (Kd.R_below (Kd.R_bound hR) hb) hk (fun k hk hs => absurd (hS _ hs) (Nat.not_le.2 hk.2.2.1))) (fun _ _ => trivial)⟩
theorem Old.below {W W2 : World} {base n : Nat} {A : Option Addr} {ys : List (List Int)} (h : Old W base A n ys) (hb : Below W.heap.size W W2) : Old W2 base A n ys :=
  h.kept hb (Kept.refl _ (fun _ => False)) (fun _ hk => hk.elim)
theorem Old.append {W w1 : World} {base : Nat} {ok : Nat → Prop} {A : Option Addr} {v : Value} {xs ys zs : List (List Int)} (h : Old W base A xs.length ys) (hS : Kd.S (Kd.slice 2 I) 33 W base ok v xs) (hg : W.grownBy w1 v.ownBlock)
    (hk : ∀ g cap, v = .slice (some ⟨g, 0, none⟩) xs.length cap → g < W.heap.size → ∀ j, j < xs.length * 1 → w1.cell? ⟨g, j, none⟩ = W.cell? ⟨g, j, none⟩) (hz : zs.length = xs.length + 1) : Old w1 base A zs.length ys := by
  refine ⟨by have := h.1; omega, fun j hj => ?_⟩
  obtain ⟨g, a, c, e, hc, hR⟩ := h.2 j hj
  have hlt := World.block_lt_of_cell? W _ hc
  have hjx : j < xs.length := Nat.lt_of_lt_of_le hj h.1
  refine ⟨g, a, c, e, ?_, Kd.R_mono (Kd.R_grown (Kd.R_apart' hR (Kd.S_typed hS) (by decide)) hg (fun k hk => hk.2)) (fun _ _ => trivial)⟩
  by_cases hv : some g = v.ownBlock
  · obtain ⟨g', cap, ev, _⟩ := Kd.S_form hS (by omega)
    have : g = g' := by
      rw [ev] at hv
      simpa [Value.ownBlock] using hv
    subst this; rw [hk g cap ev hlt j (by omega)]
    exact hc
  · exact hg.cell hc hv
theorem Old.at {W : World} {base n : Nat} {A : Option Addr} {ys : List (List Int)} (h : Old W base A n ys) (i : Int) (h0 : 0 ≤ i) (h1 : i < (ys.length : Int)) :
    ∃ ad a c, A = some ad ∧ W.cell? (ad.add i.toNat) = some (.slice a (rd_L2 ys i).length c) ∧ (rd_L2 ys i).length ≤ c ∧ Kd.C I W a (rd_L2 ys i).length (rd_L2 ys i) := by
  obtain ⟨g, a, c, e, hc, hR⟩ := h.2 i.toNat (by omega)
  have hrd : rd_L2 ys i = ys.getD i.toNat [] := rfl
  rw [hrd]
  refine ⟨⟨g, 0, none⟩, a, c, e, by rw [add_plain]; exact hc, (Kd.R_reads' hR).2.1, (Kd.R_reads' hR).2.2⟩
end FO
end Go.Proofs.Ytbhcdefemmpkpaa.G
