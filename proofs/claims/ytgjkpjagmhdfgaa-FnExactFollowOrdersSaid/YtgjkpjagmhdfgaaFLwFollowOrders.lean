/- laws.FnExactFollowOrders answers true, whatever came in: walked by hand. Printed by wip/tools/lw.py. -/
import Derived.Test.YtgjkpjagmhdfgaaPl
import Derived.Test.YtgjkpjagmhdfgaaFHpI64
import Derived.Test.YtgjkpjagmhdfgaaFLwLib
import Derived.Test.YtgjkpjagmhdfgaaFHpInt64SS
import Derived.Test.YtgjkpjagmhdfgaaFMarkInt64SS
import Derived.Test.YtgjkpjagmhdfgaaG1
import Derived.Test.YtgjkpjagmhdfgaaG2
namespace Go.Proofs.Ytgjkpjagmhdfgaa.G
open Go.RowKit Go.Proofs.YtgjkpjagmhdfgaaW.PrintWords Go.Proofs.YtgjkpjagmhdfgaaW.PrintLast Go.Proofs.YtgjkpjagmhdfgaaW.PrintMore
attribute [local go_sem] max2_int min2_int max_two min_two max_three min_three max_four min_four   -- for this text's walks alone
set_option linter.unusedVariables false
set_option linter.unusedSimpArgs false

open Go.Proofs.Ytgjkpjagmhdfgaa.Wk Go.Proofs.Ytgjkpjagmhdfgaa.Pl
namespace LwFollowOrders
theorem samples_t (a : Int) : spec_l07Samples.f a = some (inB a 1 8) := by
  unfold spec_l07Samples.f spec_l00In.f inB
  by_cases h : 1 ≤ a <;> simp [h]
theorem are_t (a : Int) : impl_areSamples.f a = some (inB a 1 8) := by
  unfold impl_areSamples.f impl_within.f inB
  by_cases h : 1 ≤ a <;> simp [h]
def fo (n : Int) : List (List Int) × Int := (spec_FollowOrders.f 400 n).getD ([], 0)
def okN (n : Int) : Bool := spec_FollowOrders.f 400 n == some (fo n) && impl_FollowOrders.f 400 n == some (fo n) && decide ((fo n).1.length ≤ 16) && (fo n).1.all fun x => decide (x.length ≤ 8)
theorem ok1 : okN 1 = true := by decide +kernel
theorem ok2 : okN 2 = true := by decide +kernel
theorem ok3 : okN 3 = true := by decide +kernel
theorem ok4 : okN 4 = true := by decide +kernel
theorem ok5 : okN 5 = true := by decide +kernel
theorem ok6 : okN 6 = true := by decide +kernel
theorem ok7 : okN 7 = true := by decide +kernel
theorem ok8 : okN 8 = true := by decide +kernel
theorem same (a : Int) : ∃ r : List (List Int) × Int, r.1.length ≤ 16 ∧ (∀ x ∈ r.1, (x.length : Int) ≤ 1048576) ∧ Ev (fun k => spec_FollowOrders.f k a) r ∧ Ev (fun k => impl_FollowOrders.f k a) r := by
  by_cases hb : inB a 1 8 = true
  · have h8 := inB_iff.1 hb
    have hk : okN a = true := by
      have : a = 1 ∨ a = 2 ∨ a = 3 ∨ a = 4 ∨ a = 5 ∨ a = 6 ∨ a = 7 ∨ a = 8 := by omega
      rcases this with rfl | rfl | rfl | rfl | rfl | rfl | rfl | rfl
      · exact ok1
      · exact ok2
      · exact ok3
      · exact ok4
      · exact ok5
      · exact ok6
      · exact ok7
      · exact ok8
    unfold okN at hk
    simp only [Bool.and_eq_true, beq_iff_eq, decide_eq_true_eq, List.all_eq_true] at hk
    obtain ⟨⟨⟨h1, h2⟩, h3⟩, h4⟩ := hk
    refine ⟨fo a, h3, fun x hx => by have := h4 x hx; omega, ?_, ?_⟩
    · exact ⟨400, fun k hk => at_rounds (spec_FollowOrders.mono a) hk h1⟩
    · exact ⟨400, fun k hk => at_rounds (impl_FollowOrders.mono a) hk h2⟩
  · refine ⟨([], 2), by simp, by simp, ?_, ?_⟩
    · unfold spec_FollowOrders.f
      simp only [samples_t, Option.bind_some, if_neg hb]
      exact Ev.now _
    · unfold impl_FollowOrders.f
      simp only [are_t, Option.bind_some, if_neg hb]
      exact Ev.now _
end LwFollowOrders
def laws_FnExactFollowOrders.f (a0 : Int) : Option Bool := some true
set_option maxHeartbeats 8000000 in
set_option maxRecDepth 100000 in
theorem laws_FnExactFollowOrders.calls (a0 : Int) (r : Bool) (w : World) (h : laws_FnExactFollowOrders.f a0 = some r) : Calls Try.prog 6 #[.int .i64 a0] w fun e w' => e = .returned (.bool r) ∧ Below w.heap.size w w' := by
  obtain rfl := Option.some.inj h
  clear h
  obtain ⟨⟨g, y⟩, hg8, hg9, hsp, him⟩ := LwFollowOrders.same a0
  simp only at hg8 hg9
  obtain ⟨ks, hs⟩ := hsp.rounds
  obtain ⟨ki, hi⟩ := him.rounds
  obtain ⟨ke, he⟩ := (eqInt64SS_tells g (by omega) hg9).rounds
  obtain ⟨kh, hhd⟩ := (MkInt64SS.held_tells g 1 (by omega) hg9 (by omega) (by omega)).rounds
  have hmb2 := MkInt64SS.bound g 1 (by omega) hg9 g.length (Nat.le_refl _)
  have hmi := fun (P : Nat → Prop) (u : Value) W (hB : Below w.heap.size w W) (hR : Kd.S (Kd.slice 2 (Kd.int .i64)) 22 W w.heap.size P u g) => MkInt64SS.calls P u g 1 w W hB hR (by omega) hg9 (by omega) (by omega)
  have hgl : (MkInt64SS.marked g 1).2.length = g.length := MkInt64SS.len g 1 g.length
  have hq2 : 0 ≤ (MkInt64SS.marked g 1).1 := hmb2.1
  obtain ⟨gm, hgm⟩ : ∃ gm, gm = (MkInt64SS.marked g 1).2 := ⟨_, rfl⟩
  obtain ⟨qg, hqg⟩ : ∃ qg, qg = (MkInt64SS.marked g 1).1 := ⟨_, rfl⟩
  rw [← hgm] at hgl
  rw [← hqg] at hq2
  rw [← hgm, ← hqg] at hhd
  simp only [← hgm, ← hqg] at hmi
  have Hmi := Lib.hid hmi
  clear hmi hgm hmb2
  have Hsp := Lib.hid fun W => spec_FollowOrders.calls ks a0 g y W hs
  have Him := Lib.hid fun W => impl_FollowOrders.calls ki a0 g y W hi
  have Heq := Lib.hid fun A c B d W (hC : Kd.C (Kd.slice 2 (Kd.int .i64)) W A g.length g) hc (hD : Kd.C (Kd.slice 2 (Kd.int .i64)) W B g.length g) hd => laws_eqInt64SS.calls ke A c g B d g true W hC hc hD hd he
  have hcg : decide (qg < 0) = false := decide_eq_false (by omega)
  have Hhd := Lib.hid fun A c W (hC : Kd.C (Kd.slice 2 (Kd.int .i64)) W A gm.length gm) hc => laws_heldInt64SS.calls kh A c gm 1 qg W hC hc hhd
  have Hhd1 := Lib.hid fun (A : Option Addr) (c : Nat) (W : World) (hh : g.length = gm.length ∧ g.length ≤ c ∧ Kd.C (Kd.slice 2 (Kd.int .i64)) W A gm.length gm) => by
    have := Hhd.out A c W hh.2.2 (by rw [hgl]; exact hh.2.1)
    rwa [hgl] at this
  clear hqg hs hi he hhd hsp him hg9
  have B := Aside0.mk (Below.refl w.heap.size w)
  go_enter Try.func6, Try.ntmps6
  go_wp2_with (fail "a call")
  refine (Hsp.out _).mono ?_; rintro e w1 ⟨v1, rfl, h1, b1⟩
  obtain ⟨A1, c1, rfl⟩ := Kd.S_slice h1
  have R0 := Aside0.mk (Kd.S_mono (ok' := fun k_ => k_ < w1.heap.size) (Kd.S_bound h1) (fun k_ hk_ => hk_.2.2.1)); clear h1
  have s1 := b1.size
  have n_ := Aside0.mk (below_then B.out B.out.size b1); clear B; have B := n_; clear n_
  clear b1
  go_wp2_with (fail "a call")
  refine (Him.out _).mono ?_; rintro e w2 ⟨v2, rfl, h2, b2⟩
  obtain ⟨A2, c2, rfl⟩ := Kd.S_slice h2
  have n_ := Aside0.mk (Kd.S_step R0.out (fun k_ _ hlt_ => b2.block k_ hlt_)); clear R0; have R0 := n_; clear n_
  have G := Aside0.mk (Kd.S_mono (ok' := fun k_ => w1.heap.size ≤ k_) (Kd.S_bound h2) (fun k_ hk_ => hk_.2.1)); clear h2
  have s2 := b2.size
  have n_ := Aside0.mk (below_then B.out B.out.size b2); clear B; have B := n_; clear n_
  clear b2
  go_wp2_with (fail "a call")
  refine (Heq.out _ _ _ _ _ (Kd.S_reads' G.out).2.2 (Kd.S_reads' G.out).2.1 (Kd.S_reads' R0.out).2.2 (Kd.S_reads' R0.out).2.1).mono ?_; rintro e w3 ⟨rfl, hd_⟩; have b3 := LwLib.db hd_; clear hd_
  have n_ := Aside0.mk (Kd.S_step R0.out (fun k_ _ hlt_ => b3.block k_ hlt_)); clear R0; have R0 := n_; clear n_
  have n_ := Aside0.mk (Kd.S_step G.out (fun k_ _ hlt_ => b3.block k_ hlt_)); clear G; have G := n_; clear n_
  have n_ := Aside0.mk (below_then B.out B.out.size b3); clear B; have B := n_; clear n_
  clear b3
  go_wp2_with (fail "a call")
  have l4 : w.heap.size ≤ w1.heap.size := by omega
  refine (Hmi.out _ _ _ B.out (Kd.S_lower G.out l4)).mono ?_; rintro e w4 ⟨rfl, h_, b_, K4⟩
  have n_ := Aside0.mk (Kd.S_kept R0.out K4 (fun k_ hk_ hs_ => by omega)); clear R0; have R0 := n_; clear n_
  clear G; have G := Aside0.mk h_; clear h_
  clear K4; have n_ := Aside0.mk b_; clear B b_; have B := n_; clear n_
  go_wp2_with (fail "a call")
  refine (Hhd1.out _ _ _ (Kd.S_reads' G.out)).mono ?_; rintro e w5 ⟨rfl, hd_⟩; have b5 := LwLib.db hd_; clear hd_
  have n_ := Aside0.mk (Kd.S_step R0.out (fun k_ _ hlt_ => b5.block k_ hlt_)); clear R0; have R0 := n_; clear n_
  have n_ := Aside0.mk (Kd.S_step G.out (fun k_ _ hlt_ => b5.block k_ hlt_)); clear G; have G := n_; clear n_
  have n_ := Aside0.mk (below_then B.out B.out.size b5); clear B; have B := n_; clear n_
  clear b5
  go_wp2_with (fail "a call")
  refine (Him.out _).mono ?_; rintro e w6 ⟨v6, rfl, h6, b6⟩
  obtain ⟨A6, c6, rfl⟩ := Kd.S_slice h6
  have n_ := Aside0.mk (Kd.S_step R0.out (fun k_ _ hlt_ => b6.block k_ hlt_)); clear R0; have R0 := n_; clear n_
  have n_ := Aside0.mk (Kd.S_step G.out (fun k_ _ hlt_ => b6.block k_ hlt_)); clear G; have G := n_; clear n_
  have H := Aside0.mk (Kd.S_mono (ok' := fun k_ => True) (Kd.S_bound h6) (fun k_ hk_ => trivial)); clear h6
  have s6 := b6.size
  have n_ := Aside0.mk (below_then B.out B.out.size b6); clear B; have B := n_; clear n_
  clear b6
  go_wp2_with (fail "a call")
  refine (Heq.out _ _ _ _ _ (Kd.S_reads' H.out).2.2 (Kd.S_reads' H.out).2.1 (Kd.S_reads' R0.out).2.2 (Kd.S_reads' R0.out).2.1).mono ?_; rintro e w7 ⟨rfl, hd_⟩; have b7 := LwLib.db hd_; clear hd_
  have n_ := Aside0.mk (Kd.S_step R0.out (fun k_ _ hlt_ => b7.block k_ hlt_)); clear R0; have R0 := n_; clear n_
  have n_ := Aside0.mk (Kd.S_step G.out (fun k_ _ hlt_ => b7.block k_ hlt_)); clear G; have G := n_; clear n_
  have n_ := Aside0.mk (Kd.S_step H.out (fun k_ _ hlt_ => b7.block k_ hlt_)); clear H; have H := n_; clear n_
  have n_ := Aside0.mk (below_then B.out B.out.size b7); clear B; have B := n_; clear n_
  clear b7
  go_wp2_with (fail "a call")
  clear H
  refine (Hhd1.out _ _ _ (Kd.S_reads' G.out)).mono ?_; rintro e w8 ⟨rfl, hd_⟩; have b8 := LwLib.db hd_; clear hd_
  have n_ := Aside0.mk (Kd.S_step R0.out (fun k_ _ hlt_ => b8.block k_ hlt_)); clear R0; have R0 := n_; clear n_
  have n_ := Aside0.mk (Kd.S_step G.out (fun k_ _ hlt_ => b8.block k_ hlt_)); clear G; have G := n_; clear n_
  have n_ := Aside0.mk (below_then B.out B.out.size b8); clear B; have B := n_; clear n_
  clear b8
  go_wp2_with (fail "a call")
  go_ret
  exact ⟨rfl, B.out⟩
end Go.Proofs.Ytgjkpjagmhdfgaa.G
