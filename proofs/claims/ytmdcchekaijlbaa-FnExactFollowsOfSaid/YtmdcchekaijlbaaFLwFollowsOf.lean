/- laws.FnExactFollowsOf answers true, whatever came in: walked by hand (markMarks writes a row of rows). Printed by wip/tools/lw.py. -/
import Derived.Test.YtmdcchekaijlbaaPl
import Derived.Test.YtmdcchekaijlbaaFHpInt64SS
import Derived.Test.YtmdcchekaijlbaaFHpI64
import Derived.Test.YtmdcchekaijlbaaFMarkInt64SS
import Derived.Test.YtmdcchekaijlbaaFLwLib
import Derived.Test.YtmdcchekaijlbaaFHpInt64SS
import Derived.Test.YtmdcchekaijlbaaFMarkInt64SS
import Derived.Test.YtmdcchekaijlbaaFLibFollows
import Derived.Test.YtmdcchekaijlbaaG5
import Derived.Test.YtmdcchekaijlbaaG5
namespace Go.Proofs.Ytmdcchekaijlbaa.G
open Go.RowKit Go.Proofs.YtmdcchekaijlbaaW.PrintWords Go.Proofs.YtmdcchekaijlbaaW.PrintLast Go.Proofs.YtmdcchekaijlbaaW.PrintMore
attribute [local go_sem] max2_int min2_int max_two min_two max_three min_three max_four min_four   -- for this text's walks alone
set_option linter.unusedVariables false
set_option linter.unusedSimpArgs false

open Go.Proofs.Ytmdcchekaijlbaa.Wk Go.Proofs.Ytmdcchekaijlbaa.Pl
namespace LwFollowsOf
theorem same (s : Int) (m : List (List Int)) (hm : m.length ≤ 1048576) (hx : ∀ x ∈ m, (x.length : Int) ≤ 1048576) : ∃ r : List (List Int) × Int, r.1.length ≤ 12 ∧ (∀ x ∈ r.1, (x.length : Int) ≤ 1048576) ∧ Ev (fun k => spec_FollowsOf.f k s m) r ∧ Ev (fun k => impl_FollowsOf.f k s m) r := by
  have hR : (followR s m).1 = [] ∨ ∃ q : Nat, q ≤ 8 ∧ Sq q (followR s m).1 := by
    unfold followR
    by_cases h1 : inB s 1 8 = true
    · have h1' := h1
      unfold inB at h1'
      simp only [Bool.and_eq_true, decide_eq_true_eq] at h1'
      rw [if_pos h1]
      by_cases h2 : m.all (okRow s) = true
      · rw [if_pos h2]
        by_cases h3 : (m.length : Int) > 100
        · rw [if_pos h3]; exact .inl rfl
        · rw [if_neg h3]
          exact .inr ⟨s.toNat, by omega, followL_sq _ _⟩
      · rw [if_neg h2]; exact .inl rfl
    · rw [if_neg h1]; exact .inl rfl
  refine ⟨followR s m, ?_, ?_, spec_follows_tells s m hm hx, impl_follows_tells s m hm hx⟩
  · rcases hR with h | ⟨q, hq, h⟩
    · rw [h]; simp
    · rw [h.1]; omega
  · intro x hx2
    rcases hR with h | ⟨q, hq, h⟩
    · rw [h] at hx2; simp at hx2
    · obtain ⟨j, hj, rfl⟩ := List.getElem_of_mem hx2
      have := h.2 j (by rw [← h.1]; exact hj)
      rw [getD_lt hj] at this
      omega
end LwFollowsOf
def laws_FnExactFollowsOf.f (a0 : Int) (l1 : List (List Int)) : Option Bool := if l1.length * 24 ≤ 140737488351232 ∧ (l1.all fun x => decide (x.length ≤ 9223372036854775807)) = true then some true else none
set_option maxHeartbeats 8000000 in
set_option maxRecDepth 100000 in
theorem laws_FnExactFollowsOf.calls (a0 : Int) (A1 : Option Addr) (c1 : Nat) (l1 : List (List Int)) (r : Bool) (w : World) (hr1 : Kd.C (Kd.slice 2 (Kd.int .i64)) w A1 l1.length l1) (hc1 : l1.length ≤ c1) (h : laws_FnExactFollowsOf.f a0 l1 = some r) :
    Calls Try.prog 3 #[.int .i64 a0, .slice A1 l1.length c1] w fun e w' => e = .returned (.bool r) ∧ Below w.heap.size w w' := by
  unfold laws_FnExactFollowsOf.f at h
  by_cases hh : l1.length * 24 ≤ 140737488351232 ∧ (l1.all fun x => decide (x.length ≤ 9223372036854775807)) = true
  case neg => rw [if_neg hh] at h; exact absurd h (by simp)
  rw [if_pos hh] at h
  obtain rfl := Option.some.inj h
  clear h
  have hx0 : ∀ x ∈ l1, x.length ≤ 9223372036854775807 := fun x hx => of_decide_eq_true (List.all_eq_true.1 hh.2 x hx)
  rcases szInt64SS_tells l1 hh.1 hx0 1048576 (by omega) (by omega) with hz | ⟨⟨h1, h2⟩, n, hn, hz⟩
  · obtain ⟨k, hk⟩ := hz.rounds
    have Hsz := Lib.hid (laws_szInt64SS.calls k A1 c1 l1 1048576 (-1) w hr1 hc1 hk)
    clear hk hr1 hx0 hh
    go_enter Try.func3, Try.ntmps3
    go_wp2_with (go_at_call 11; refine Hsz.out.mono ?_; rintro e w1 ⟨rfl, hd1⟩)
    go_ret
    exact ⟨rfl, LwLib.db hd1⟩
  · obtain ⟨⟨g, y⟩, hg8, hg9, hsp, him⟩ := LwFollowsOf.same a0 l1 (by omega) h2
    simp only at hg8 hg9
    have hcn : decide (n < 0) = false := decide_eq_false (by omega)
    obtain ⟨kz, hz⟩ := hz.rounds
    obtain ⟨kt, ht⟩ := (toInt64SS_tells l1 (by omega) h2).rounds
    obtain ⟨ks, hs⟩ := hsp.rounds
    obtain ⟨ki, hi⟩ := him.rounds
    obtain ⟨km, hm⟩ := (eqInt64SS_tells l1 (by omega) h2).rounds
    obtain ⟨ke, he⟩ := (eqInt64SS_tells g (by omega) hg9).rounds
    obtain ⟨kh, hhd⟩ := (MkInt64SS.held_tells g 1 (by omega) hg9 (by omega) (by omega)).rounds
    have hmb2 := MkInt64SS.bound g 1 (by omega) hg9 g.length (Nat.le_refl _)
    have hmi := fun (P : Nat → Prop) (u : Value) W (hB : Below w.heap.size w W) (hR : Kd.S (Kd.slice 2 (Kd.int .i64)) 34 W w.heap.size P u g) => MkInt64SS.calls P u g 1 w W hB hR (by omega) hg9 (by omega) (by omega)
    have hgl : (MkInt64SS.marked g 1).2.length = g.length := MkInt64SS.len g 1 g.length
    have hq2 : 0 ≤ (MkInt64SS.marked g 1).1 := hmb2.1
    obtain ⟨gm, hgm⟩ : ∃ gm, gm = (MkInt64SS.marked g 1).2 := ⟨_, rfl⟩
    obtain ⟨qg, hqg⟩ : ∃ qg, qg = (MkInt64SS.marked g 1).1 := ⟨_, rfl⟩
    rw [← hgm] at hgl
    rw [← hqg] at hq2
    rw [← hgm, ← hqg] at hhd
    simp only [← hgm, ← hqg] at hmi
    have Hmi := Lib.hid hmi
    clear hmi hgm hmb2
    have hmb := MkInt64SS.bound l1 1 (by omega) h2 l1.length (Nat.le_refl _)
    have hq1 : 0 ≤ (MkInt64SS.marked l1 1).1 := hmb.1
    clear hmb
    have Hmk := Lib.hid fun (ok : Nat → Prop) (v : Value) (W : World) (hB : Below w.heap.size w W) (hS : Kd.S (Kd.slice 2 (Kd.int .i64)) 34 W w.heap.size ok v l1) => MkInt64SS.calls ok v l1 1 w W hB hS (by omega) h2 (by omega) (by omega)
    have Hsz := Lib.hid (laws_szInt64SS.calls kz A1 c1 l1 1048576 n w hr1 hc1 hz)
    have Hto := Lib.hid fun W (hb : Below w.heap.size w W) => laws_toInt64SS.calls kt A1 c1 l1 l1 W (Kd.C_below hr1 hb) hc1 ht
    have Hsp := Lib.hid fun A c W (hC : Kd.C (Kd.slice 2 (Kd.int .i64)) W A l1.length l1) hc => spec_FollowsOf.calls ks a0 A c l1 g y W hC hc hs
    have Him := Lib.hid fun A c W (hC : Kd.C (Kd.slice 2 (Kd.int .i64)) W A l1.length l1) hc => impl_FollowsOf.calls ki a0 A c l1 g y W hC hc hi
    have Heq := Lib.hid fun A c B d W (hC : Kd.C (Kd.slice 2 (Kd.int .i64)) W A g.length g) hc (hD : Kd.C (Kd.slice 2 (Kd.int .i64)) W B g.length g) hd => laws_eqInt64SS.calls ke A c g B d g true W hC hc hD hd he
    have Hem := Lib.hid fun A c B d W (hC : Kd.C (Kd.slice 2 (Kd.int .i64)) W A l1.length l1) hc (hD : Kd.C (Kd.slice 2 (Kd.int .i64)) W B l1.length l1) hd => laws_eqInt64SS.calls km A c l1 B d l1 true W hC hc hD hd hm
    have hcm : decide ((MkInt64SS.marked l1 1).1 < 0) = false := decide_eq_false (by omega)
    have hcg : decide (qg < 0) = false := decide_eq_false (by omega)
    have Hhd := Lib.hid fun A c W (hC : Kd.C (Kd.slice 2 (Kd.int .i64)) W A gm.length gm) hc => laws_heldInt64SS.calls kh A c gm 1 qg W hC hc hhd
    have Hhd1 := Lib.hid fun (A : Option Addr) (c : Nat) (W : World) (hh : g.length = gm.length ∧ g.length ≤ c ∧ Kd.C (Kd.slice 2 (Kd.int .i64)) W A gm.length gm) => by
      have := Hhd.out A c W hh.2.2 (by rw [hgl]; exact hh.2.1)
      rwa [hgl] at this
    clear hqg hz ht hs hi he hm hhd hr1 hx0 hh h1 h2 hn hsp him hg9
    go_enter Try.func3, Try.ntmps3
    go_wp2_with (go_at_call 11; refine Hsz.out.mono ?_; rintro e w1 ⟨rfl, hd1⟩; have B1 := Aside0.mk (LwLib.db hd1); clear hd1)
    have B := B1; clear B1; have s1 := B.out.size
    refine (Hto.out _ B.out).mono ?_; rintro e w2 ⟨v2, rfl, h2, b2⟩
    obtain ⟨A2, c2, rfl⟩ := Kd.S_slice h2
    have T := Aside0.mk (Kd.S_mono (ok' := fun k_ => True) (Kd.S_bound h2) (fun k_ hk_ => trivial)); clear h2
    have s2 := b2.size
    have n_ := Aside0.mk (below_then B.out B.out.size b2); clear B; have B := n_; clear n_
    clear b2
    go_wp2_with (fail "a call")
    refine (Hsp.out _ _ _ (Kd.S_reads' T.out).2.2 (Kd.S_reads' T.out).2.1).mono ?_; rintro e w3 ⟨v3, rfl, h3, b3⟩
    obtain ⟨A3, c3, rfl⟩ := Kd.S_slice h3
    have n_ := Aside0.mk (Kd.S_step T.out (fun k_ _ hlt_ => b3.block k_ hlt_)); clear T; have T := n_; clear n_
    have R0 := Aside0.mk (Kd.S_mono (ok' := fun k_ => k_ < w3.heap.size) (Kd.S_bound h3) (fun k_ hk_ => hk_.2.2.1)); clear h3
    have s3 := b3.size
    have n_ := Aside0.mk (below_then B.out B.out.size b3); clear B; have B := n_; clear n_
    clear b3
    go_wp2_with (fail "a call")
    clear T
    refine (Hto.out _ B.out).mono ?_; rintro e w4 ⟨v4, rfl, h4, b4⟩
    obtain ⟨A4, c4, rfl⟩ := Kd.S_slice h4
    have n_ := Aside0.mk (Kd.S_step R0.out (fun k_ _ hlt_ => b4.block k_ hlt_)); clear R0; have R0 := n_; clear n_
    have X := Aside0.mk (Kd.S_mono (ok' := fun k_ => w3.heap.size ≤ k_ ∧ k_ < w4.heap.size) (Kd.S_bound h4) (fun k_ hk_ => ⟨hk_.2.1, hk_.2.2.1⟩)); clear h4
    have s4 := b4.size
    have n_ := Aside0.mk (below_then B.out B.out.size b4); clear B; have B := n_; clear n_
    clear b4
    go_wp2_with (fail "a call")
    refine (Him.out _ _ _ (Kd.S_reads' X.out).2.2 (Kd.S_reads' X.out).2.1).mono ?_; rintro e w5 ⟨v5, rfl, h5, b5⟩
    obtain ⟨A5, c5, rfl⟩ := Kd.S_slice h5
    have n_ := Aside0.mk (Kd.S_step R0.out (fun k_ _ hlt_ => b5.block k_ hlt_)); clear R0; have R0 := n_; clear n_
    have n_ := Aside0.mk (Kd.S_step X.out (fun k_ _ hlt_ => b5.block k_ hlt_)); clear X; have X := n_; clear n_
    have G := Aside0.mk (Kd.S_mono (ok' := fun k_ => w4.heap.size ≤ k_) (Kd.S_bound h5) (fun k_ hk_ => hk_.2.1)); clear h5
    have s5 := b5.size
    have n_ := Aside0.mk (below_then B.out B.out.size b5); clear B; have B := n_; clear n_
    clear b5
    go_wp2_with (fail "a call")
    refine (Heq.out _ _ _ _ _ (Kd.S_reads' G.out).2.2 (Kd.S_reads' G.out).2.1 (Kd.S_reads' R0.out).2.2 (Kd.S_reads' R0.out).2.1).mono ?_; rintro e w6 ⟨rfl, hd_⟩; have b6 := LwLib.db hd_; clear hd_
    have n_ := Aside0.mk (Kd.S_step R0.out (fun k_ _ hlt_ => b6.block k_ hlt_)); clear R0; have R0 := n_; clear n_
    have n_ := Aside0.mk (Kd.S_step X.out (fun k_ _ hlt_ => b6.block k_ hlt_)); clear X; have X := n_; clear n_
    have n_ := Aside0.mk (Kd.S_step G.out (fun k_ _ hlt_ => b6.block k_ hlt_)); clear G; have G := n_; clear n_
    have n_ := Aside0.mk (below_then B.out B.out.size b6); clear B; have B := n_; clear n_
    clear b6
    go_wp2_with (fail "a call")
    refine (Hto.out _ B.out).mono ?_; rintro e w7 ⟨v7, rfl, h7, b7⟩
    obtain ⟨A7, c7, rfl⟩ := Kd.S_slice h7
    have n_ := Aside0.mk (Kd.S_step R0.out (fun k_ _ hlt_ => b7.block k_ hlt_)); clear R0; have R0 := n_; clear n_
    have n_ := Aside0.mk (Kd.S_step X.out (fun k_ _ hlt_ => b7.block k_ hlt_)); clear X; have X := n_; clear n_
    have n_ := Aside0.mk (Kd.S_step G.out (fun k_ _ hlt_ => b7.block k_ hlt_)); clear G; have G := n_; clear n_
    have T := Aside0.mk (Kd.S_mono (ok' := fun k_ => True) (Kd.S_bound h7) (fun k_ hk_ => trivial)); clear h7
    have s7 := b7.size
    have n_ := Aside0.mk (below_then B.out B.out.size b7); clear B; have B := n_; clear n_
    clear b7
    go_wp2_with (fail "a call")
    refine (Hem.out _ _ _ _ _ (Kd.S_reads' X.out).2.2 (Kd.S_reads' X.out).2.1 (Kd.S_reads' T.out).2.2 (Kd.S_reads' T.out).2.1).mono ?_; rintro e w8 ⟨rfl, hd_⟩; have b8 := LwLib.db hd_; clear hd_
    have n_ := Aside0.mk (Kd.S_step R0.out (fun k_ _ hlt_ => b8.block k_ hlt_)); clear R0; have R0 := n_; clear n_
    have n_ := Aside0.mk (Kd.S_step X.out (fun k_ _ hlt_ => b8.block k_ hlt_)); clear X; have X := n_; clear n_
    have n_ := Aside0.mk (Kd.S_step G.out (fun k_ _ hlt_ => b8.block k_ hlt_)); clear G; have G := n_; clear n_
    have n_ := Aside0.mk (Kd.S_step T.out (fun k_ _ hlt_ => b8.block k_ hlt_)); clear T; have T := n_; clear n_
    have n_ := Aside0.mk (below_then B.out B.out.size b8); clear B; have B := n_; clear n_
    clear b8
    go_wp2_with (fail "a call")
    clear T
    have l3 : w.heap.size ≤ w3.heap.size := by omega
    refine (Hmk.out _ _ _ B.out (Kd.S_lower X.out l3)).mono ?_; rintro e w9 ⟨rfl, -, b_, K9⟩
    have n_ := Aside0.mk (Kd.S_kept R0.out K9 (fun k_ hk_ hs_ => by omega)); clear R0; have R0 := n_; clear n_
    have n_ := Aside0.mk (Kd.S_kept G.out K9 (fun k_ hk_ hs_ => by omega)); clear G; have G := n_; clear n_
    clear X; clear K9; have n_ := Aside0.mk b_; clear B b_; have B := n_; clear n_
    go_wp2_with (fail "a call")
    refine (Heq.out _ _ _ _ _ (Kd.S_reads' G.out).2.2 (Kd.S_reads' G.out).2.1 (Kd.S_reads' R0.out).2.2 (Kd.S_reads' R0.out).2.1).mono ?_; rintro e w10 ⟨rfl, hd_⟩; have b10 := LwLib.db hd_; clear hd_
    have n_ := Aside0.mk (Kd.S_step R0.out (fun k_ _ hlt_ => b10.block k_ hlt_)); clear R0; have R0 := n_; clear n_
    have n_ := Aside0.mk (Kd.S_step G.out (fun k_ _ hlt_ => b10.block k_ hlt_)); clear G; have G := n_; clear n_
    have n_ := Aside0.mk (below_then B.out B.out.size b10); clear B; have B := n_; clear n_
    clear b10
    go_wp2_with (fail "a call")
    have l4 : w.heap.size ≤ w4.heap.size := by omega
    refine (Hmi.out _ _ _ B.out (Kd.S_lower G.out l4)).mono ?_; rintro e w11 ⟨rfl, h_, b_, K11⟩
    have n_ := Aside0.mk (Kd.S_kept R0.out K11 (fun k_ hk_ hs_ => by omega)); clear R0; have R0 := n_; clear n_
    clear G; have G := Aside0.mk h_; clear h_
    clear K11; have n_ := Aside0.mk b_; clear B b_; have B := n_; clear n_
    go_wp2_with (fail "a call")
    refine (Hhd1.out _ _ _ (Kd.S_reads' G.out)).mono ?_; rintro e w12 ⟨rfl, hd_⟩; have b12 := LwLib.db hd_; clear hd_
    have n_ := Aside0.mk (Kd.S_step R0.out (fun k_ _ hlt_ => b12.block k_ hlt_)); clear R0; have R0 := n_; clear n_
    have n_ := Aside0.mk (Kd.S_step G.out (fun k_ _ hlt_ => b12.block k_ hlt_)); clear G; have G := n_; clear n_
    have n_ := Aside0.mk (below_then B.out B.out.size b12); clear B; have B := n_; clear n_
    clear b12
    go_wp2_with (fail "a call")
    refine (Hto.out _ B.out).mono ?_; rintro e w13 ⟨v13, rfl, h13, b13⟩
    obtain ⟨A13, c13, rfl⟩ := Kd.S_slice h13
    have n_ := Aside0.mk (Kd.S_step R0.out (fun k_ _ hlt_ => b13.block k_ hlt_)); clear R0; have R0 := n_; clear n_
    have n_ := Aside0.mk (Kd.S_step G.out (fun k_ _ hlt_ => b13.block k_ hlt_)); clear G; have G := n_; clear n_
    have T := Aside0.mk (Kd.S_mono (ok' := fun k_ => True) (Kd.S_bound h13) (fun k_ hk_ => trivial)); clear h13
    have s13 := b13.size
    have n_ := Aside0.mk (below_then B.out B.out.size b13); clear B; have B := n_; clear n_
    clear b13
    go_wp2_with (fail "a call")
    refine (Him.out _ _ _ (Kd.S_reads' T.out).2.2 (Kd.S_reads' T.out).2.1).mono ?_; rintro e w14 ⟨v14, rfl, h14, b14⟩
    obtain ⟨A14, c14, rfl⟩ := Kd.S_slice h14
    have n_ := Aside0.mk (Kd.S_step R0.out (fun k_ _ hlt_ => b14.block k_ hlt_)); clear R0; have R0 := n_; clear n_
    have n_ := Aside0.mk (Kd.S_step G.out (fun k_ _ hlt_ => b14.block k_ hlt_)); clear G; have G := n_; clear n_
    have n_ := Aside0.mk (Kd.S_step T.out (fun k_ _ hlt_ => b14.block k_ hlt_)); clear T; have T := n_; clear n_
    have H := Aside0.mk (Kd.S_mono (ok' := fun k_ => True) (Kd.S_bound h14) (fun k_ hk_ => trivial)); clear h14
    have s14 := b14.size
    have n_ := Aside0.mk (below_then B.out B.out.size b14); clear B; have B := n_; clear n_
    clear b14
    go_wp2_with (fail "a call")
    clear T
    refine (Heq.out _ _ _ _ _ (Kd.S_reads' H.out).2.2 (Kd.S_reads' H.out).2.1 (Kd.S_reads' R0.out).2.2 (Kd.S_reads' R0.out).2.1).mono ?_; rintro e w15 ⟨rfl, hd_⟩; have b15 := LwLib.db hd_; clear hd_
    have n_ := Aside0.mk (Kd.S_step R0.out (fun k_ _ hlt_ => b15.block k_ hlt_)); clear R0; have R0 := n_; clear n_
    have n_ := Aside0.mk (Kd.S_step G.out (fun k_ _ hlt_ => b15.block k_ hlt_)); clear G; have G := n_; clear n_
    have n_ := Aside0.mk (Kd.S_step H.out (fun k_ _ hlt_ => b15.block k_ hlt_)); clear H; have H := n_; clear n_
    have n_ := Aside0.mk (below_then B.out B.out.size b15); clear B; have B := n_; clear n_
    clear b15
    go_wp2_with (fail "a call")
    clear H
    refine (Hhd1.out _ _ _ (Kd.S_reads' G.out)).mono ?_; rintro e w16 ⟨rfl, hd_⟩; have b16 := LwLib.db hd_; clear hd_
    have n_ := Aside0.mk (Kd.S_step R0.out (fun k_ _ hlt_ => b16.block k_ hlt_)); clear R0; have R0 := n_; clear n_
    have n_ := Aside0.mk (Kd.S_step G.out (fun k_ _ hlt_ => b16.block k_ hlt_)); clear G; have G := n_; clear n_
    have n_ := Aside0.mk (below_then B.out B.out.size b16); clear B; have B := n_; clear n_
    clear b16
    go_wp2_with (fail "a call")
    go_ret
    exact ⟨rfl, B.out⟩
end Go.Proofs.Ytmdcchekaijlbaa.G
