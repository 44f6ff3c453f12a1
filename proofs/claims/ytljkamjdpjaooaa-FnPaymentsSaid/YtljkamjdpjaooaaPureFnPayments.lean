/- FnPayments: the law of payments answers true, for all two rows of bytes. No condition. -/
import Derived.Test.YtljkamjdpjaooaaSayFnPayments
import Derived.Test.YtljkamjdpjaooaaFLibPay
import Derived.Test.YtljkamjdpjaooaaFLibFew
import Derived.Test.YtljkamjdpjaooaaFLibLed
import Derived.Test.YtljkamjdpjaooaaFChkPay
import Derived.Test.YtljkamjdpjaooaaFLibBrk
namespace Go.Proofs.Ytljkamjdpjaooaa.PureFnPayments
open Go.RowKit Go.Proofs.YtljkamjdpjaooaaW.PrintWords Go.Proofs.YtljkamjdpjaooaaW.PrintMore Go.Proofs.Ytljkamjdpjaooaa.G Go.Proofs.Ytljkamjdpjaooaa.SayFnPayments Go.Proofs.Ytljkamjdpjaooaa.Wk Go.Proofs.Ytljkamjdpjaooaa.Pl Pay FewL Few
set_option linter.unusedSimpArgs false
set_option linter.unusedVariables false
/-! Every party is in one group. -/
theorem split_len (L : List (Int × Int)) (j e : Nat) : (L.filter fun p => decide ((j : Int) ≤ p.2 ∧ p.2 < ((j + (e + 1) : Nat) : Int))).length = (L.filter fun p => p.2 == (j : Int)).length + (L.filter fun p => decide (((j + 1 : Nat) : Int) ≤ p.2 ∧ p.2 < ((j + 1 + e : Nat) : Int))).length := by
  induction L with
  | nil => rfl
  | cons p L ih =>
    rw [List.filter_cons, List.filter_cons, List.filter_cons]
    by_cases h1 : p.2 = (j : Int)
    · rw [if_pos (decide_eq_true (by omega)), if_pos (by simpa using h1), if_neg (by simp; omega), List.length_cons, List.length_cons]
      omega
    · rw [if_neg (show ¬ ((p.2 == (j : Int)) = true) by simpa using h1)]
      by_cases h2 : ((j + 1 : Nat) : Int) ≤ p.2 ∧ p.2 < ((j + 1 + e : Nat) : Int)
      · rw [if_pos (decide_eq_true (by omega)), if_pos (decide_eq_true h2), List.length_cons, List.length_cons]
        omega
      · rw [if_neg (by simp; omega), if_neg (by simpa using h2)]
        exact ih
theorem tot_range (left P a : List Int) (hz : ∀ x ∈ P, rd left x ≠ 0) : ∀ e j : Nat, tot left P a j e = ((P.zip a).filter fun p => decide ((j : Int) ≤ p.2 ∧ p.2 < ((j + e : Nat) : Int))).length
  | 0, j => by
    rw [tot]
    symm
    rw [List.length_eq_zero_iff, List.filter_eq_nil_iff]
    intro p _ h
    have := of_decide_eq_true h
    omega
  | e + 1, j => by
    rw [tot, tot_range left P a hz e (j + 1), split_len]
    congr 1
    have : nzf (rd left) (memb P a j) = (memb P a j).length := by
      unfold nzf
      rw [List.filter_eq_self.2 fun x hx => by simpa using hz x (memb_sub x hx)]
    rw [this]
    unfold memb
    rw [List.length_map]
theorem tot_all {left P a : List Int} {c : Nat} (hz : ∀ x ∈ P, rd left x ≠ 0) (ha : a.length = P.length) (hrg : RG a c) : tot left P a 0 c = P.length := by
  rw [tot_range left P a hz c 0, List.filter_eq_self.2 fun p hp => by
    have := hrg.lo p.2 (List.of_mem_zip (show (p.1, p.2) ∈ P.zip a from hp)).2
    simp
    omega, List.length_zip]
  omega
theorem in_group {P a : List Int} {c : Nat} (ha : a.length = P.length) (hrg : RG a c) {x : Int} (hx : x ∈ P) : ∃ i, i < c ∧ x ∈ memb P a i := by
  obtain ⟨k, hk, rfl⟩ := List.getElem_of_mem hx
  have h := hrg.lo (a[k]'(by omega)) (List.getElem_mem _)
  refine ⟨(a[k]'(by omega)).toNat, by omega, ?_⟩
  unfold memb
  refine List.mem_map.2 ⟨(P[k], a[k]'(by omega)), List.mem_filter.2 ⟨?_, by simp; omega⟩, rfl⟩
  have : (P.zip a)[k]'(by rw [List.length_zip]; omega) = (P[k], a[k]'(by omega)) := List.getElem_zip
  rw [← this]
  exact List.getElem_mem _
/-! What payments do. -/
structure POk (m : Nat) (p : Few.P) : Prop where
  f0 : 0 ≤ p.f0
  f1 : p.f0 < (m : Int)
  t0 : 0 ≤ p.f1
  t1 : p.f1 < (m : Int)
  ne : p.f0 ≠ p.f1
  a1 : 1 ≤ p.f2
  a2 : p.f2 ≤ 1000000000
def one (p : Few.P) (x : Int) : Int := (if p.f0 = x then p.f2 else 0) - (if p.f1 = x then p.f2 else 0)
def eff (ps : List Few.P) (x : Int) : Int := (ps.map fun p => one p x).sum
abbrev pf (l : List Int) (p : Few.P) : List Int := put l p.f0 p.f1 p.f2
theorem pf_len (ps : List Few.P) (l : List Int) : (ps.foldl pf l).length = l.length := by
  induction ps generalizing l with
  | nil => rfl
  | cons p ps ih => rw [List.foldl_cons, ih]; simp [pf, put]
theorem pf_eff {m : Nat} : ∀ (ps : List Few.P) (l : List Int) (B : Int), (∀ p ∈ ps, POk m p) → l.length = m → (∀ x, 0 ≤ x → x < (m : Int) → -B ≤ rd l x ∧ rd l x ≤ B) → B + 1000000000 * (ps.length : Int) ≤ 1000000000000000 → ∀ x, 0 ≤ x → x < (m : Int) → rd (ps.foldl pf l) x = rd l x + eff ps x
  | [], l, B, _, _, _, _, x, _, _ => by simp [eff]
  | p :: ps, l, B, hp, hl, hb, hB, x, hx0, hx1 => by
    have hk := hp p List.mem_cons_self
    rw [List.length_cons] at hB
    have hput : ∀ y, 0 ≤ y → y < (m : Int) → rd (pf l p) y = rd l y + one p y := by
      intro y h0 h1
      have b1 := hb p.f0 hk.f0 hk.f1
      have b2 := hb p.f1 hk.t0 hk.t1
      have := hk.a1
      have := hk.a2
      have := hk.ne
      have w1 : wrap64 (rd l p.f0 + p.f2) = rd l p.f0 + p.f2 := w_id (by omega) (by omega)
      have w2 : wrap64 (rd l p.f1 - p.f2) = rd l p.f1 - p.f2 := w_id (by omega) (by omega)
      unfold pf
      rw [rd_put hk.f0 (by rw [hl]; exact hk.f1) hk.t0 (by rw [hl]; exact hk.t1) h0, w1, w2]
      unfold upd one
      by_cases e1 : y = p.f1
      · rw [if_pos e1, if_neg (by omega), if_pos e1.symm, e1]; omega
      · rw [if_neg e1, if_neg (Ne.symm e1)]
        by_cases e2 : y = p.f0
        · rw [if_pos e2, if_pos e2.symm, e2]; omega
        · rw [if_neg e2, if_neg (Ne.symm e2)]; omega
    have hone : ∀ y, -1000000000 ≤ one p y ∧ one p y ≤ 1000000000 := by
      intro y
      have := hk.a1
      have := hk.a2
      unfold one
      split <;> split <;> omega
    rw [List.foldl_cons, pf_eff ps (pf l p) (B + 1000000000) (fun q hq => hp q (List.mem_cons_of_mem _ hq)) (by simp [pf, put, hl]) (fun y h0 h1 => by rw [hput y h0 h1]; have := hb y h0 h1; have := hone y; omega) (by omega) x hx0 hx1, hput x hx0 hx1]
    unfold eff
    rw [List.map_cons, List.sum_cons]
    omega
theorem chk_go {m : Nat} (hm : m ≤ 6) (l1 : List Few.P) (hp : ∀ p ∈ l1, POk m p) : ∀ (d i : Nat) (l : List Int), i + d = l1.length → ChkPay.go (m : Int) l1 d i l = some ((l1.drop i).foldl pf l)
  | 0, i, l, hi => by
    rw [ChkPay.go, List.drop_of_length_le (by omega)]
    rfl
  | d + 1, i, l, hi => by
    have hlt : i < l1.length := by omega
    have hk := hp l1[i] (List.getElem_mem hlt)
    have e : l1.getD i z39 = l1[i] := getD_lt hlt _
    have hb : ChkPay.bad (m : Int) l1[i] = false := by
      unfold ChkPay.bad
      have := hk.f0; have := hk.f1; have := hk.t0; have := hk.t1
      have w1 : wrap64 l1[i].f0 = l1[i].f0 := w_id (by omega) (by omega)
      have w2 : wrap64 l1[i].f1 = l1[i].f1 := w_id (by omega) (by omega)
      have w3 : wrap64 ((m : Int) - 1) = (m : Int) - 1 := w_id (by omega) (by omega)
      rw [w1, w2, w3, inB_yes (by omega) (by omega), inB_yes (by omega) (by omega), inB_yes hk.a1 hk.a2]
      have : (l1[i].f0 == l1[i].f1) = false := by simpa using hk.ne
      rw [this]
      rfl
    rw [ChkPay.go, e, hb, if_neg Bool.false_ne_true, chk_go hm l1 hp d (i + 1) _ (by omega), List.drop_eq_getElem_cons hlt, List.foldl_cons]
    rfl
theorem chk_tells {nets : List Int} (h : netsC nets = 0) (h6 : nets.length ≤ 6) (ps : List Few.P) (hp : ∀ p ∈ ps, POk nets.length p) (hl : ps.length ≤ 80) : impl_CheckPayments.f nets ps = some (allB (ps.foldl pf nets) 0 0, 0) := by
  unfold impl_CheckPayments.f
  have hall : (ps.all fun x => inB x.f0 (-128) 127 && inB x.f1 (-128) 127) = true := List.all_eq_true.2 fun p hq => by
    have hk := hp p hq
    have := hk.f0; have := hk.f1; have := hk.t0; have := hk.t1
    rw [inB_yes (by omega) (by omega), inB_yes (by omega) (by omega)]
    rfl
  rw [if_pos ⟨hall, by omega⟩, if_pos h, if_neg (by omega), chk_go h6 ps hp ps.length 0 nets (by omega), List.drop_zero]
  rfl
theorem eff_none {ps : List Few.P} {x : Int} (h : ∀ p ∈ ps, p.f0 ≠ x ∧ p.f1 ≠ x) : eff ps x = 0 := by
  unfold eff
  induction ps with
  | nil => rfl
  | cons p ps ih =>
    have hp := h p List.mem_cons_self
    rw [List.map_cons, List.sum_cons, ih (fun q hq => h q (List.mem_cons_of_mem _ hq))]
    unfold one
    rw [if_neg hp.1, if_neg hp.2]
    rfl
theorem eff_app (a b : List Few.P) (x : Int) : eff (a ++ b) x = eff a x + eff b x := by
  unfold eff
  rw [List.map_append, List.sum_append]
/-- All that is known of the nets and what is due. -/
structure Due (nets : List Int) (new : List Few.P) : Prop where
  nc : NC nets
  c0 : netsC nets = 0
  spec : Ev (fun k => spec_FewestPayments.f k nets) (new, (0 : Int))
  impl : Ev (fun k => impl_FewestPayments.f k nets) (new, (0 : Int))
  ok : ∀ p ∈ new, POk nets.length p ∧ rd nets p.f0 < 0 ∧ 0 < rd nets p.f1
  zero : ∀ x, 0 ≤ x → x < (nets.length : Int) → rd nets x + eff new x = 0
  n1 : 0 < (parts nets nets.length).length → new.length + 1 ≤ (parts nets nets.length).length
  n0 : (parts nets nets.length).length = 0 → new = []
  n2 : (parts nets nets.length).length ≤ 2 * new.length
  n6 : new.length ≤ 6
theorem due_t {nets : List Int} (hn : Led.NetOk nets) : ∃ new, Due nets new := by
  have h1 := hn.n1
  have h6 := hn.n6
  have hb : ∀ x ∈ nets, -1000000000 ≤ x ∧ x ≤ 1000000000 := fun x hx => by have := hn.b x hx; omega
  have hnc : NC nets := ⟨h1, h6, hb, hn.s⟩
  have hc0 : netsC nets = 0 := by
    unfold netsC
    have hall : allB nets (-1000000000) 1000000000 = true := List.all_eq_true.2 fun x hx => inB_yes (hb x hx).1 (hb x hx).2
    have hs : netsSum nets = 0 := by
      unfold netsSum
      rw [fold_sum nets 0 hb (by omega) (by omega), hn.s]
      rfl
    rw [inB_yes (by omega) (by omega), if_pos rfl, hall, if_pos rfl, if_pos hs]
  obtain ⟨a, c, left', new, ha, hrg, hc6, hs, hi, hli, hz, hap⟩ := few_runs hnc
  have hPz : ∀ x ∈ parts nets nets.length, rd nets x ≠ 0 := fun x hx => ((parts_mem nets nets.length x).1 hx).2.2
  have hPm : ∀ x ∈ parts nets nets.length, 0 ≤ x ∧ x < (nets.length : Int) := fun x hx => by
    have := (parts_mem nets nets.length x).1 hx
    exact ⟨this.1, this.2.1⟩
  have hPl := Few.parts_len nets nets.length
  rw [tot_all hPz ha hrg] at hap
  have hlen : new.length ≤ 6 := by
    rcases Nat.eq_zero_or_pos (parts nets nets.length).length with h0 | h0
    · rw [hap.n0 h0]; simp
    · have := hap.n1 h0; omega
  have hok : ∀ p ∈ new, POk nets.length p ∧ rd nets p.f0 < 0 ∧ 0 < rd nets p.f1 := fun p hp => by
    obtain ⟨f, t, hf, ht, hfn, htp, e, a1, a2⟩ := hap.each p hp
    have hfm := hPm f hf
    have htm := hPm t ht
    have e0 : p.f0 = f := by rw [e]; exact i8_id hfm.1 (by omega)
    have e1 : p.f1 = t := by rw [e]; exact i8_id htm.1 (by omega)
    refine ⟨⟨by omega, by omega, by omega, by omega, fun h => ?_, a1, a2⟩, by rw [e0]; exact hfn, by rw [e1]; exact htp⟩
    rw [e0, e1] at h
    rw [h] at hfn
    omega
  have hin : ∀ p ∈ new, p.f0 ∈ parts nets nets.length ∧ p.f1 ∈ parts nets nets.length := fun p hp => by
    obtain ⟨h1, h2, h3⟩ := hok p hp
    exact ⟨(parts_mem nets nets.length p.f0).2 ⟨h1.f0, h1.f1, by omega⟩, (parts_mem nets nets.length p.f1).2 ⟨h1.t0, h1.t1, by omega⟩⟩
  refine ⟨new, ⟨hnc, hc0, ?_, ?_, hok, fun x hx0 hx1 => ?_, hap.n1, hap.n0, hap.n2, hlen⟩⟩
  · unfold spec_FewestPayments.f
    refine Ev.bind (l06Nets_tells nets) ?_
    simp only [hc0, if_true]
    exact hs
  · unfold impl_FewestPayments.f
    refine Ev.bind (netsCode_tells nets) ?_
    simp only [hc0, if_true, if_pos (show 1 ≤ nets.length ∧ nets.length ≤ 1000 by omega)]
    exact hi
  · by_cases hx : x ∈ parts nets nets.length
    · obtain ⟨i, hi1, hi2⟩ := in_group ha hrg hx
      have hl := hz i hi1 x hi2
      have he := pf_eff new nets 1000000000 (fun p hp => (hok p hp).1) rfl (fun y _ _ => rd_bnd hb y) (by omega) x hx0 hx1
      have hf : left' = new.foldl pf nets := hap.fold
      rw [hf] at hl
      omega
    · have h0 : rd nets x = 0 := Classical.byContradiction fun h => hx ((parts_mem nets nets.length x).2 ⟨hx0, hx1, h⟩)
      rw [h0, eff_none (x := x) fun p hp => ⟨fun e => hx (by rw [← e]; exact (hin p hp).1), fun e => hx (by rw [← e]; exact (hin p hp).2)⟩]
      rfl
theorem all_zero {l : List Int} : allB l 0 0 = true ↔ ∀ j : Nat, j < l.length → l.getD j 0 = 0 := by
  unfold allB
  rw [all_iff_range]
  constructor
  · intro h j hj
    have := inB_iff.1 (h j hj)
    omega
  · intro h j hj
    rw [h j hj]
    rfl
theorem same_t (l : List Few.P) (hl : l.length ≤ 1000) : Ev (fun k => spec_A2SamePayments.f k l l) true := by
  unfold spec_A2SamePayments.f
  simp only [if_true]
  have h := ev_steps (F := fun k i (s : Unit) => spec_A2SamePayments.l0 k l l i) 0 l.length (Nat.zero_le _) (fun _ => ()) true (fun i _ hi h => by
    refine Ev.step (fun k => ?_) h
    simp only [spec_A2SamePayments.l0]
    rw [if_pos (by omega), if_pos (by omega), if_pos (by omega), if_neg (by simp), w_i hi (by omega)]) (Ev.step (f := fun _ => some true) (fun k => by simp only [spec_A2SamePayments.l0]; rw [if_neg (by omega)]) (Ev.now _))
  exact h
/-- Without one of them, they are not fine. -/
theorem less_t {nets : List Int} {new : List Few.P} (h : Due nets new) {i : Nat} (hi : i < new.length) : impl_CheckPayments.f nets (new.take i ++ new.drop (i + 1)) = some (false, 0) := by
  have h6 := h.nc.n6
  have hok : ∀ p ∈ new.take i ++ new.drop (i + 1), POk nets.length p := fun p hp => by
    rcases List.mem_append.1 hp with hp | hp
    · exact (h.ok p (List.mem_of_mem_take hp)).1
    · exact (h.ok p (List.mem_of_mem_drop hp)).1
  have hl : (new.take i ++ new.drop (i + 1)).length ≤ 80 := by
    have := h.n6
    simp
    omega
  rw [chk_tells h.c0 h6 _ hok hl]
  have hp := (h.ok new[i] (List.getElem_mem hi)).1
  have he : eff new new[i].f0 = eff (new.take i ++ new.drop (i + 1)) new[i].f0 + one new[i] new[i].f0 := by
    have : new = new.take i ++ (new[i] :: new.drop (i + 1)) := by rw [← List.drop_eq_getElem_cons hi, List.take_append_drop]
    have h2 : eff new new[i].f0 = eff (new.take i ++ (new[i] :: new.drop (i + 1))) new[i].f0 := by rw [← this]
    rw [h2, eff_app, eff_app]
    show _ + (eff (new[i] :: new.drop (i + 1)) _) = _
    unfold eff
    rw [List.map_cons, List.sum_cons]
    omega
  have hone : one new[i] new[i].f0 = new[i].f2 := by
    unfold one
    rw [if_pos rfl, if_neg (Ne.symm hp.ne)]
    omega
  have hz := h.zero new[i].f0 hp.f0 hp.f1
  have hr := pf_eff (new.take i ++ new.drop (i + 1)) nets 1000000000 hok rfl (fun y _ _ => rd_bnd h.nc.b y) (by omega) new[i].f0 hp.f0 hp.f1
  have hlen := pf_len (new.take i ++ new.drop (i + 1)) nets
  have ha1 := hp.a1
  have hno : allB ((new.take i ++ new.drop (i + 1)).foldl pf nets) 0 0 = false := by
    rw [Bool.eq_false_iff]
    intro ht
    have h0 := all_zero.1 ht new[i].f0.toNat (by have := hp.f0; have := hp.f1; omega)
    have h1 : rd ((new.take i ++ new.drop (i + 1)).foldl pf nets) new[i].f0 = 0 := h0
    omega
  rw [hno]
def cnt2 (s : Int × Int) (e : Led.Ent) : Int × Int := (if e.f3 = 4 then s.1 + e.f4 else s.1, if e.f3 = 3 then s.2 + e.f4 else s.2)
theorem brk_fold : ∀ (es : List Led.Ent) (b d : Int), (∀ e ∈ es, Led.EOk e) → 0 ≤ b → 0 ≤ d → b + d + 6 * (es.length : Int) ≤ 1000 →
    es.foldl Brk.step (b, b + d) = ((es.foldl cnt2 (b, d)).1, (es.foldl cnt2 (b, d)).1 + (es.foldl cnt2 (b, d)).2) ∧ 0 ≤ (es.foldl cnt2 (b, d)).1 ∧ 0 ≤ (es.foldl cnt2 (b, d)).2 ∧ (es.foldl cnt2 (b, d)).1 + (es.foldl cnt2 (b, d)).2 ≤ 1000
  | [], b, d, _, h1, h2, h3 => ⟨rfl, h1, h2, by simpa using h3⟩
  | e :: es, b, d, he, h1, h2, h3 => by
    have hk := he e List.mem_cons_self
    have n1 := hk.n1
    have n6 := hk.n6
    rw [List.length_cons] at h3
    have ih := fun b' d' g1 g2 g3 => brk_fold es b' d' (fun x hx => he x (List.mem_cons_of_mem _ hx)) g1 g2 g3
    rw [List.foldl_cons, List.foldl_cons]
    have hm : mx e.f4 0 = e.f4 := by unfold mx; rw [if_neg (by omega)]
    have w1 : wrap64 e.f4 = e.f4 := w_id (by omega) (by omega)
    have w2 : wrap64 (b + e.f4) = b + e.f4 := w_id (by omega) (by omega)
    have w3 : wrap64 (b + d + e.f4) = b + d + e.f4 := w_id (by omega) (by omega)
    unfold Brk.step cnt2
    simp only [hm, w1, w2, w3]
    by_cases c4 : e.f3 = 4
    · rw [if_pos c4, if_pos c4, if_neg (by omega), show b + d + e.f4 = (b + e.f4) + d by omega]
      exact ih (b + e.f4) d (by omega) h2 (by omega)
    · rw [if_neg c4, if_neg c4]
      by_cases c3 : e.f3 = 3
      · rw [if_pos c3, if_pos c3, show b + d + e.f4 = b + (d + e.f4) by omega]
        exact ih b (d + e.f4) h1 (by omega) (by omega)
      · rw [if_neg c3, if_neg c3]
        exact ih b d h1 h2 (by omega)
theorem break_t {es : List Led.Ent} (h : Led.LedOk es) : Ev (fun k => laws_FnPayments.l2 k es (Brk.brk es).1 (Brk.brk es).2 (Brk.brk es).1 (Brk.brk es).2 0 0 0) true := by
  have hl := h.len
  obtain ⟨hf, hb0, hd0, hmax⟩ := brk_fold es 0 0 h.each (by omega) (by omega) (by omega)
  have hbrk : Brk.brk es = Brk.fin (es.foldl Brk.step (0, 0 + 0)) := by
    unfold Brk.brk
    rw [if_neg (by omega)]
    rfl
  rw [hf] at hbrk
  have key := ev_foldI (F := fun k i (s : Int × Int) => laws_FnPayments.l2 k es (Brk.brk es).1 (Brk.brk es).2 (Brk.brk es).1 (Brk.brk es).2 s.1 s.2 i) es z46 cnt2 (fun _ => true) (fun i s => s = (es.take i).foldl cnt2 (0, 0)) (fun i s hi hI => by
      rw [hI, List.take_succ_eq_append_getElem hi, List.foldl_append, getD_lt hi]
      rfl) (fun i s r hi hI hr => by
      have hk := h.each es[i] (List.getElem_mem hi)
      have hs := brk_fold (es.take i) 0 0 (fun e he => h.each e (List.mem_of_mem_take he)) (by omega) (by omega) (by rw [List.length_take]; omega)
      rw [← hI] at hs
      have n1 := hk.n1
      have n6 := hk.n6
      rw [getD_lt hi] at hr
      have hrd : rd_T46 es (i : Int) = es[i] := getD_lt (show (i : Int).toNat < es.length by omega) _
      have w1 : wrap64 es[i].f4 = es[i].f4 := w_id (by omega) (by omega)
      have w2 : wrap64 (s.1 + es[i].f4) = s.1 + es[i].f4 := w_id (by omega) (by omega)
      have w3 : wrap64 (s.2 + es[i].f4) = s.2 + es[i].f4 := w_id (by omega) (by omega)
      refine Ev.step (fun k => ?_) hr
      simp only [laws_FnPayments.l2, hrd, w1, w2, w3, w_i (show i < 8 by omega) (show (8 : Nat) ≤ 4611686018427387904 by omega)]
      rw [if_pos (by omega), if_pos (by omega)]
      unfold cnt2
      by_cases c4 : es[i].f3 = 4
      · rw [if_pos c4, if_neg (by omega), if_pos c4, if_neg (by omega)]
      · rw [if_neg c4, if_neg c4]
        by_cases c3 : es[i].f3 = 3
        · rw [if_pos c3, if_pos c3]
        · rw [if_neg c3, if_neg c3]) (fun s hI => by
      rw [List.take_length] at hI
      rw [← hI] at hf hb0 hd0 hmax hbrk
      have w1 : wrap64 (s.1 + s.2) = s.1 + s.2 := w_id (by omega) (by omega)
      refine Ev.step (f := fun k => laws_FnPayments.j5 k (Brk.brk es).2 (Brk.brk es).1 s.1 s.2 false) (fun k => ?_) ?_
      · simp only [laws_FnPayments.l2]
        rw [if_neg (by omega)]
        simp only [if_true, w1]
        congr 1
        rw [hbrk]
        unfold Brk.fin
        by_cases c : s.1 + s.2 = 0
        · rw [if_pos c, c]; rfl
        · rw [if_neg c, decide_eq_true (show s.1 + s.2 > 0 by omega)]; rfl
      · refine Ev.step (f := fun _ => some true) (fun k => ?_) (Ev.now _)
        simp only [laws_FnPayments.j5]
        rw [if_neg Bool.false_ne_true, hbrk]
        unfold Brk.fin
        by_cases c : s.1 + s.2 = 0
        · simp only [if_pos c]
          rfl
        · simp only [if_neg c, if_true]
          have hq : Int.tdiv (s.1 * 1000) (s.1 + s.2) = s.1 * 1000 / (s.1 + s.2) := Int.tdiv_eq_ediv_of_nonneg (by omega)
          have w2 : wrap64 (s.1 * 1000) = s.1 * 1000 := w_id (by omega) (by omega)
          have w3 : wrap64 (1000 * s.1) = 1000 * s.1 := w_id (by omega) (by omega)
          have hq0 : 0 ≤ s.1 * 1000 / (s.1 + s.2) := Int.ediv_nonneg (by omega) (by omega)
          have hql : s.1 * 1000 / (s.1 + s.2) ≤ s.1 * 1000 := Int.ediv_le_self _ (by omega)
          have hm := Int.mul_ediv_add_emod (s.1 * 1000) (s.1 + s.2)
          have hr0 := Int.emod_nonneg (s.1 * 1000) (show s.1 + s.2 ≠ 0 by omega)
          have hr1 := Int.emod_lt_of_pos (s.1 * 1000) (show 0 < s.1 + s.2 by omega)
          rw [w1, w2, w3, hq]
          generalize s.1 * 1000 / (s.1 + s.2) = q at hq0 hql hm
          generalize s.1 * 1000 % (s.1 + s.2) = rr at hm hr0 hr1
          have e1 : (s.1 + s.2) * q = q * (s.1 + s.2) := Int.mul_comm _ _
          have e2 : (q + 1) * (s.1 + s.2) = q * (s.1 + s.2) + (s.1 + s.2) := by rw [Int.add_mul, Int.one_mul]
          have hp0 : 0 ≤ q * (s.1 + s.2) := Int.mul_nonneg hq0 (by omega)
          have w4 : wrap64 q = q := w_id (by omega) (by omega)
          have w5 : wrap64 (q + 1) = q + 1 := w_id (by omega) (by omega)
          have w6 : wrap64 (q * (s.1 + s.2)) = q * (s.1 + s.2) := w_id (by omega) (by omega)
          have w7 : wrap64 ((q + 1) * (s.1 + s.2)) = q * (s.1 + s.2) + (s.1 + s.2) := by rw [e2]; exact w_id (by omega) (by omega)
          rw [w4, w5, w6, w7, if_pos (by omega), decide_eq_true (by omega)]) (0, 0) (by simp)
  exact key
theorem FnPayments : SayFnPayments.Pure := by
  intro l0 l1 _ hc0 _ hc1
  refine Ev.rounds (?_ : Ev (fun k => laws_FnPayments.f k l0 l1) true)
  unfold laws_FnPayments.f laws_a2Long.f
  by_cases b0 : (l0.length : Int) > 3000
  · simp only [if_pos b0, Option.bind_some, if_true]
    exact Ev.now _
  simp only [if_neg b0, Option.bind_some]
  by_cases b1 : (l1.length : Int) > 3000
  · simp only [decide_eq_true b1, if_true]
    exact Ev.now _
  simp only [decide_eq_false b1, if_neg Bool.false_ne_true]
  obtain ⟨nets, hn, hnets⟩ := Led.nets_t hc0
  obtain ⟨new, hd⟩ := due_t hn
  obtain ⟨es, hes, hled⟩ := Led.ledger_t hc1
  have h6 := hn.n6
  have hnl := hd.n6
  refine Ev.bind hnets ?_
  refine Ev.bind hd.impl ?_
  refine Ev.bind hd.spec ?_
  have hfine : impl_CheckPayments.f nets new = some (true, 0) := by
    rw [chk_tells hd.c0 h6 new (fun p hp => (hd.ok p hp).1) (by omega)]
    have : allB (new.foldl pf nets) 0 0 = true := all_zero.2 fun j hj => by
      rw [pf_len] at hj
      have h1 := pf_eff new nets 1000000000 (fun p hp => (hd.ok p hp).1) rfl (fun y _ _ => rd_bnd hd.nc.b y) (by omega) (j : Int) (by omega) (by omega)
      have h2 := hd.zero (j : Int) (by omega) (by omega)
      have h3 : rd (new.foldl pf nets) (j : Int) = (new.foldl pf nets).getD j 0 := rfl
      omega
    rw [this]
  simp only [hfine, Option.bind_some, if_true]
  refine Ev.bind (same_t new (by omega)) ?_
  simp only [if_true, Bool.not_true]
  refine Ev.step (f := fun k => laws_FnPayments.l0 k l1 nets new 0 0) (fun k => by simp only [laws_FnPayments.j0]; rw [if_neg Bool.false_ne_true]) ?_
  have hPl := Few.parts_len nets nets.length
  refine ev_steps (F := fun k i (s : Int) => laws_FnPayments.l0 k l1 nets new s i) 0 nets.length (Nat.zero_le _) (fun i => ((parts nets i).length : Int)) true (fun i _ hi h => ?_) ?_
  · have hpl := Few.parts_len nets i
    refine Ev.step (fun k => ?_) h
    simp only [laws_FnPayments.l0]
    rw [if_pos (by omega), if_pos (by omega), w_i (show i < 7 by omega) (by omega), parts]
    by_cases e : rd nets (i : Int) = 0
    · rw [if_pos e, if_neg (by simp [e])]
    · rw [if_neg e, if_pos (show (rd nets (i : Int) != 0) = true by simpa using e), List.length_append, List.length_singleton, w_i (show (parts nets i).length < 7 by omega) (by omega)]
  have hn0 := hd.n0
  have hn1 := hd.n1
  have hn2 := hd.n2
  refine Ev.step (f := fun k => laws_FnPayments.j2 k l1 nets new false) (fun k => ?_) ?_
  · simp only [laws_FnPayments.l0]
    have w1 : wrap64 (2 * (new.length : Int)) = 2 * (new.length : Int) := w_id (by omega) (by omega)
    have w2 : wrap64 (((parts nets nets.length).length : Int) - 1) = ((parts nets nets.length).length : Int) - 1 := w_id (by omega) (by omega)
    rw [if_neg (by omega), w1, w2, if_neg (by
      unfold mx
      rcases Nat.eq_zero_or_pos (parts nets nets.length).length with h0 | h0
      · rw [hn0 h0]; simp; split <;> omega
      · have := hn1 h0; split <;> omega), decide_eq_false (by omega)]
  refine Ev.step (f := fun k => laws_FnPayments.l1 k l1 nets new 0) (fun k => by simp only [laws_FnPayments.j2]; rw [if_neg Bool.false_ne_true]) ?_
  refine ev_steps (F := fun k i (s : Unit) => laws_FnPayments.l1 k l1 nets new i) 0 new.length (Nat.zero_le _) (fun _ => ()) true (fun i _ hi h => ?_) ?_
  · refine Ev.step (fun k => ?_) h
    have hp := hd.ok new[i] (List.getElem_mem hi)
    have hrd : rd_T39 new (i : Int) = new[i] := getD_lt (show (i : Int).toNat < new.length by omega) _
    have hw := w_i (show i < 7 by omega) (show (7 : Nat) ≤ 4611686018427387904 by omega)
    have hlt := List.length_take_le i new
    have hld : (new.drop (i + 1)).length ≤ new.length := by rw [List.length_drop]; omega
    have q0 := hp.1.f0; have q1 := hp.1.f1; have q2 := hp.1.t0; have q3 := hp.1.t1; have q4 := hp.1.a1; have q5 := hp.2.1; have q6 := hp.2.2
    simp only [laws_FnPayments.l1, hrd, hw, Option.bind_some, Int.toNat_natCast, List.nil_append, List.length_nil, Nat.zero_add, less_t hd hi]
    rw [if_pos (by omega), if_pos (by omega), if_pos (by omega), if_pos (by omega), if_pos (by omega), if_pos (by omega), if_pos (by omega)]
    simp only [if_true, if_neg Bool.false_ne_true]
    rw [if_neg (by omega), if_pos q0, if_pos q1, if_neg (by omega), if_pos q2, if_pos q3, if_neg (by omega)]
  · refine Ev.step (f := fun k => (spec_A2Ledger.f k l1).bind fun t327 => ((impl_BreakageOf.f k t327).bind fun bt330 => ((spec_BreakageOf.f k t327).bind fun bt332 => (laws_FnPayments.l2 k t327 bt330.1 bt330.2 bt332.1 bt332.2 0 0 0)))) (fun k => by simp only [laws_FnPayments.l1]; rw [if_neg (by omega)]) ?_
    refine Ev.bind hled ?_
    refine Ev.bind (Brk.impl_tells es) ?_
    refine Ev.bind (Brk.spec_tells es fun x hx => by have := (hes.each x hx).n1; have := (hes.each x hx).n6; omega) ?_
    exact break_t hes
end Go.Proofs.Ytljkamjdpjaooaa.PureFnPayments
