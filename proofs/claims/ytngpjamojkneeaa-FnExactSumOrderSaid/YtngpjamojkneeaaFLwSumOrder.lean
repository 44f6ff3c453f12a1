/- laws.FnExactSumOrder answers true, whatever came in: walked by hand (markMarks writes a row of rows). Printed by wip/tools/lw.py. -/
import Derived.Test.YtngpjamojkneeaaPl
import Derived.Test.YtngpjamojkneeaaFHpMarks
import Derived.Test.YtngpjamojkneeaaFHpI64
import Derived.Test.YtngpjamojkneeaaFMarkMarks
import Derived.Test.YtngpjamojkneeaaFLwLib
import Derived.Test.YtngpjamojkneeaaFLibRanks
import Derived.Test.YtngpjamojkneeaaFLibI64
import Derived.Test.YtngpjamojkneeaaFSumEq
import Derived.Test.YtngpjamojkneeaaG2
import Derived.Test.YtngpjamojkneeaaFSumFI
namespace Go.Proofs.Ytngpjamojkneeaa.G
open Go.RowKit Go.Proofs.YtngpjamojkneeaaW.PrintWords Go.Proofs.YtngpjamojkneeaaW.PrintLast Go.Proofs.YtngpjamojkneeaaW.PrintMore
attribute [local go_sem] max2_int min2_int max_two min_two max_three min_three max_four min_four   -- for this text's walks alone
set_option linter.unusedVariables false
set_option linter.unusedSimpArgs false

open Go.Proofs.Ytngpjamojkneeaa.Wk Go.Proofs.Ytngpjamojkneeaa.Pl
namespace LwSumOrder
theorem same (s : Int) (m : List (List Int)) (hm : m.length ≤ 1048576) (hx : ∀ x ∈ m, (x.length : Int) ≤ 1048576) : ∃ r : List Int × Int, r.1.length ≤ 8 ∧ Ev (fun k => spec_SumOrder.f k s m) r ∧ Ev (fun k => impl_SumOrder.f k s m) r := by
  unfold spec_SumOrder.f impl_SumOrder.f impl_ValidMarks.f
  simp only [Option.bind_some]
  by_cases hb : marksB s m = true
  · obtain ⟨q, rfl, h1, h2, h3, h4⟩ := marksB_rows hb
    have hS := SumW.sums_bd q m h2 h3
    have hl := sumsL_len q m
    refine ⟨(Sum.insI (sumsL q m) (SumW.iota q) (q - 1), 0), ?_, Ev.bind (l07Ok_tells _ m hm hx) ?_, ?_⟩
    · show (Sum.insI (sumsL q m) (SumW.iota q) (q - 1)).length ≤ 8
      rw [Sum.insI_length, SumW.iota_length]
      exact h2
    · simp only [if_pos hb]
      exact Ev.bind (spec_sums_tells q m h2 h3 h4) (SumW.spec_order hS h1 h2 hl)
    · simp only [if_pos hb]
      refine Ev.bind (impl_sums_tells q m h2 h3 h4) ?_
      simp only [Int.toNat_natCast, if_pos (show 1 ≤ (q : Int) ∧ (q : Int) ≤ 8 ∧ (sumsL q m).length = q from ⟨by omega, by omega, hl⟩)]
      exact Ev.now _
  · refine ⟨([], 1), by simp, Ev.bind (l07Ok_tells _ m hm hx) ?_, ?_⟩
    · simp only [if_neg hb]
      exact Ev.now _
    · simp only [if_neg hb]
      exact Ev.now _
end LwSumOrder
def laws_FnExactSumOrder.f (a0 : Int) (l1 : List (List Int)) : Option Bool := if l1.length * 24 ≤ 140737488351232 ∧ (l1.all fun x => decide (x.length ≤ 9223372036854775807)) = true then some true else none
set_option maxHeartbeats 8000000 in
set_option maxRecDepth 100000 in
theorem laws_FnExactSumOrder.calls (a0 : Int) (A1 : Option Addr) (c1 : Nat) (l1 : List (List Int)) (r : Bool) (w : World) (hr1 : Kd.C (Kd.slice 2 (Kd.int .i64)) w A1 l1.length l1) (hc1 : l1.length ≤ c1) (h : laws_FnExactSumOrder.f a0 l1 = some r) :
    Calls Try.prog 5 #[.int .i64 a0, .slice A1 l1.length c1] w fun e w' => e = .returned (.bool r) ∧ Below w.heap.size w w' := by
  unfold laws_FnExactSumOrder.f at h
  by_cases hh : l1.length * 24 ≤ 140737488351232 ∧ (l1.all fun x => decide (x.length ≤ 9223372036854775807)) = true
  case neg => rw [if_neg hh] at h; exact absurd h (by simp)
  rw [if_pos hh] at h
  obtain rfl := Option.some.inj h
  clear h
  have hx0 : ∀ x ∈ l1, x.length ≤ 9223372036854775807 := fun x hx => of_decide_eq_true (List.all_eq_true.1 hh.2 x hx)
  rcases szMarks_tells l1 hh.1 hx0 1048576 (by omega) (by omega) with hz | ⟨⟨h1, h2⟩, n, hn, hz⟩
  · obtain ⟨k, hk⟩ := hz.rounds
    have Hsz := Lib.hid (laws_szMarks.calls k A1 c1 l1 1048576 (-1) w hr1 hc1 hk)
    clear hk hr1 hx0 hh
    go_enter Try.func5, Try.ntmps5
    go_wp2_with (go_at_call 7; refine Hsz.out.mono ?_; rintro e w1 ⟨rfl, hd1⟩)
    go_ret
    exact ⟨rfl, LwLib.db hd1⟩
  · obtain ⟨⟨g, y⟩, hg8, hsp, him⟩ := LwSumOrder.same a0 l1 (by omega) h2
    simp only at hg8
    have hcn : decide (n < 0) = false := decide_eq_false (by omega)
    obtain ⟨kz, hz⟩ := hz.rounds
    obtain ⟨kt, ht⟩ := (toMarks_tells l1 (by omega) h2).rounds
    obtain ⟨ks, hs⟩ := hsp.rounds
    obtain ⟨ki, hi⟩ := him.rounds
    obtain ⟨km, hm⟩ := (eqMarks_tells l1 (by omega) h2).rounds
    obtain ⟨ke, he⟩ := (ev_of (eqInt64S_tells g (by omega))).rounds
    obtain ⟨kk, hk⟩ := (ev_of (markInt64S_tells g (by omega) 1 (by omega) (by omega))).rounds
    obtain ⟨kh, hhd⟩ := (ev_of (heldInt64S_tells g.length (by omega) 1 (by omega) (by omega))).rounds
    obtain ⟨gm, hgm⟩ : ∃ gm, gm = (List.range g.length).map fun j => mkInt64 (cnt 1 1 j) := ⟨_, rfl⟩
    have hgl : gm.length = g.length := by rw [hgm]; simp
    rw [← hgm] at hk hhd
    clear hgm
    obtain ⟨qg, hqg⟩ : ∃ qg, qg = cnt 1 1 g.length := ⟨_, rfl⟩
    have hq2 : 0 ≤ qg := by rw [hqg]; unfold cnt; omega
    rw [← hqg] at hk hhd
    have Hmi := Lib.hid fun (P : Nat → Prop) (u : Value) W (hB : Below w.heap.size w W) (hR : Kd.R (Kd.int .i64) 2 W w.heap.size P u g) => laws_markInt64S.calls kk P u g 1 qg gm w W hB hR hk
    clear hk
    have hmb := MkMarks.bound l1 1 (by omega) h2 l1.length (Nat.le_refl _)
    have hq1 : 0 ≤ (MkMarks.marked l1 1).1 := hmb.1
    clear hmb
    have Hmk := Lib.hid fun (ok : Nat → Prop) (v : Value) (W : World) (hB : Below w.heap.size w W) (hS : Kd.S (Kd.slice 2 (Kd.int .i64)) 24 W w.heap.size ok v l1) => MkMarks.calls ok v l1 1 w W hB hS (by omega) h2 (by omega) (by omega)
    have Hsz := Lib.hid (laws_szMarks.calls kz A1 c1 l1 1048576 n w hr1 hc1 hz)
    have Hto := Lib.hid fun W (hb : Below w.heap.size w W) => laws_toMarks.calls kt A1 c1 l1 l1 W (Kd.C_below hr1 hb) hc1 ht
    have Hsp := Lib.hid fun A c W (hC : Kd.C (Kd.slice 2 (Kd.int .i64)) W A l1.length l1) hc => spec_SumOrder.calls ks a0 A c l1 g y W hC hc hs
    have Him := Lib.hid fun A c W (hC : Kd.C (Kd.slice 2 (Kd.int .i64)) W A l1.length l1) hc => impl_SumOrder.calls ki a0 A c l1 g y W hC hc hi
    have Heq := Lib.hid fun A c B d W (hC : Kd.C (Kd.int .i64) W A g.length g) hc (hD : Kd.C (Kd.int .i64) W B g.length g) hd => laws_eqInt64S.calls ke A c g B d g true W hC hc hD hd he
    have Hem := Lib.hid fun A c B d W (hC : Kd.C (Kd.slice 2 (Kd.int .i64)) W A l1.length l1) hc (hD : Kd.C (Kd.slice 2 (Kd.int .i64)) W B l1.length l1) hd => laws_eqMarks.calls km A c l1 B d l1 true W hC hc hD hd hm
    have hcm : decide ((MkMarks.marked l1 1).1 < 0) = false := decide_eq_false (by omega)
    have hcg : decide (qg < 0) = false := decide_eq_false (by omega)
    have Hhd := Lib.hid fun A c W (hC : Kd.C (Kd.int .i64) W A gm.length gm) hc => laws_heldInt64S.calls kh A c gm 1 qg W hC hc hhd
    have Hhd1 := Lib.hid fun (A : Option Addr) (c : Nat) (W : World) (hh : g.length = gm.length ∧ g.length ≤ c ∧ Kd.C (Kd.int .i64) W A gm.length gm) => by
      have := Hhd.out A c W hh.2.2 (by rw [hgl]; exact hh.2.1)
      rwa [hgl] at this
    clear hqg hz ht hs hi he hm hhd hr1 hx0 hh h1 h2 hn hsp him
    go_enter Try.func5, Try.ntmps5
    go_wp2_with (go_at_call 7; refine Hsz.out.mono ?_; rintro e w1 ⟨rfl, hd1⟩; have B1 := Aside0.mk (LwLib.db hd1); clear hd1)
    have B := B1; clear B1; have s1 := B.out.size
    refine (Hto.out _ B.out).mono ?_; rintro e w2 ⟨v2, rfl, h2, b2⟩
    obtain ⟨A2, c2, rfl⟩ := Kd.S_slice h2
    have T := Aside0.mk (Kd.S_mono (ok' := fun k_ => True) (Kd.S_bound h2) (fun k_ hk_ => trivial)); clear h2
    have s2 := b2.size
    have n_ := Aside0.mk (below_then B.out B.out.size b2); clear B; have B := n_; clear n_
    clear b2
    go_wp2_with (fail "a call")
    refine (Hsp.out _ _ _ (Kd.S_reads' T.out).2.2 (Kd.S_reads' T.out).2.1).mono ?_; rintro e w3 ⟨v3, rfl, h3, b3⟩
    obtain ⟨A3, c3, rfl⟩ := Kd.R_slice h3
    have n_ := Aside0.mk (Kd.S_step T.out (fun k_ _ hlt_ => b3.block k_ hlt_)); clear T; have T := n_; clear n_
    have R0 := Aside0.mk (Kd.R_mono (ok' := fun k_ => k_ < w3.heap.size) (Kd.R_bound h3) (fun k_ hk_ => hk_.2.2.1)); clear h3
    have s3 := b3.size
    have n_ := Aside0.mk (below_then B.out B.out.size b3); clear B; have B := n_; clear n_
    clear b3
    go_wp2_with (fail "a call")
    clear T
    refine (Hto.out _ B.out).mono ?_; rintro e w4 ⟨v4, rfl, h4, b4⟩
    obtain ⟨A4, c4, rfl⟩ := Kd.S_slice h4
    have n_ := Aside0.mk (Kd.R_below R0.out b4); clear R0; have R0 := n_; clear n_
    have X := Aside0.mk (Kd.S_mono (ok' := fun k_ => w3.heap.size ≤ k_ ∧ k_ < w4.heap.size) (Kd.S_bound h4) (fun k_ hk_ => ⟨hk_.2.1, hk_.2.2.1⟩)); clear h4
    have s4 := b4.size
    have n_ := Aside0.mk (below_then B.out B.out.size b4); clear B; have B := n_; clear n_
    clear b4
    go_wp2_with (fail "a call")
    refine (Him.out _ _ _ (Kd.S_reads' X.out).2.2 (Kd.S_reads' X.out).2.1).mono ?_; rintro e w5 ⟨v5, rfl, h5, b5⟩
    obtain ⟨A5, c5, rfl⟩ := Kd.R_slice h5
    have n_ := Aside0.mk (Kd.R_below R0.out b5); clear R0; have R0 := n_; clear n_
    have n_ := Aside0.mk (Kd.S_step X.out (fun k_ _ hlt_ => b5.block k_ hlt_)); clear X; have X := n_; clear n_
    have G := Aside0.mk (Kd.R_mono (ok' := fun k_ => w4.heap.size ≤ k_) (Kd.R_bound h5) (fun k_ hk_ => hk_.2.1)); clear h5
    have s5 := b5.size
    have n_ := Aside0.mk (below_then B.out B.out.size b5); clear B; have B := n_; clear n_
    clear b5
    go_wp2_with (fail "a call")
    refine (Heq.out _ _ _ _ _ (Kd.R_reads' G.out).2.2 (Kd.R_reads' G.out).2.1 (Kd.R_reads' R0.out).2.2 (Kd.R_reads' R0.out).2.1).mono ?_; rintro e w6 ⟨rfl, hd_⟩; have b6 := LwLib.db hd_; clear hd_
    have n_ := Aside0.mk (Kd.R_below R0.out b6); clear R0; have R0 := n_; clear n_
    have n_ := Aside0.mk (Kd.S_step X.out (fun k_ _ hlt_ => b6.block k_ hlt_)); clear X; have X := n_; clear n_
    have n_ := Aside0.mk (Kd.R_below G.out b6); clear G; have G := n_; clear n_
    have n_ := Aside0.mk (below_then B.out B.out.size b6); clear B; have B := n_; clear n_
    clear b6
    go_wp2_with (fail "a call")
    refine (Hto.out _ B.out).mono ?_; rintro e w7 ⟨v7, rfl, h7, b7⟩
    obtain ⟨A7, c7, rfl⟩ := Kd.S_slice h7
    have n_ := Aside0.mk (Kd.R_below R0.out b7); clear R0; have R0 := n_; clear n_
    have n_ := Aside0.mk (Kd.S_step X.out (fun k_ _ hlt_ => b7.block k_ hlt_)); clear X; have X := n_; clear n_
    have n_ := Aside0.mk (Kd.R_below G.out b7); clear G; have G := n_; clear n_
    have T := Aside0.mk (Kd.S_mono (ok' := fun k_ => True) (Kd.S_bound h7) (fun k_ hk_ => trivial)); clear h7
    have s7 := b7.size
    have n_ := Aside0.mk (below_then B.out B.out.size b7); clear B; have B := n_; clear n_
    clear b7
    go_wp2_with (fail "a call")
    refine (Hem.out _ _ _ _ _ (Kd.S_reads' X.out).2.2 (Kd.S_reads' X.out).2.1 (Kd.S_reads' T.out).2.2 (Kd.S_reads' T.out).2.1).mono ?_; rintro e w8 ⟨rfl, hd_⟩; have b8 := LwLib.db hd_; clear hd_
    have n_ := Aside0.mk (Kd.R_below R0.out b8); clear R0; have R0 := n_; clear n_
    have n_ := Aside0.mk (Kd.S_step X.out (fun k_ _ hlt_ => b8.block k_ hlt_)); clear X; have X := n_; clear n_
    have n_ := Aside0.mk (Kd.R_below G.out b8); clear G; have G := n_; clear n_
    have n_ := Aside0.mk (Kd.S_step T.out (fun k_ _ hlt_ => b8.block k_ hlt_)); clear T; have T := n_; clear n_
    have n_ := Aside0.mk (below_then B.out B.out.size b8); clear B; have B := n_; clear n_
    clear b8
    go_wp2_with (fail "a call")
    clear T
    have l3 : w.heap.size ≤ w3.heap.size := by omega
    refine (Hmk.out _ _ _ B.out (Kd.S_lower X.out l3)).mono ?_; rintro e w9 ⟨rfl, -, b_, K9⟩
    have n_ := Aside0.mk (Kd.R_kept R0.out K9 (fun k_ hk_ hs_ => by omega)); clear R0; have R0 := n_; clear n_
    have n_ := Aside0.mk (Kd.R_kept G.out K9 (fun k_ hk_ hs_ => by omega)); clear G; have G := n_; clear n_
    clear X; clear K9; have n_ := Aside0.mk b_; clear B b_; have B := n_; clear n_
    go_wp2_with (fail "a call")
    refine (Heq.out _ _ _ _ _ (Kd.R_reads' G.out).2.2 (Kd.R_reads' G.out).2.1 (Kd.R_reads' R0.out).2.2 (Kd.R_reads' R0.out).2.1).mono ?_; rintro e w10 ⟨rfl, hd_⟩; have b10 := LwLib.db hd_; clear hd_
    have n_ := Aside0.mk (Kd.R_below R0.out b10); clear R0; have R0 := n_; clear n_
    have n_ := Aside0.mk (Kd.R_below G.out b10); clear G; have G := n_; clear n_
    have n_ := Aside0.mk (below_then B.out B.out.size b10); clear B; have B := n_; clear n_
    clear b10
    go_wp2_with (fail "a call")
    have l4 : w.heap.size ≤ w4.heap.size := by omega
    refine (Hmi.out _ _ _ B.out (Kd.R_lower G.out l4)).mono ?_; rintro e w11 ⟨rfl, h_, b_, K11⟩
    have n_ := Aside0.mk (Kd.R_kept R0.out K11 (fun k_ hk_ hs_ => by omega)); clear R0; have R0 := n_; clear n_
    clear G; have G := Aside0.mk h_; clear h_
    clear K11; have n_ := Aside0.mk b_; clear B b_; have B := n_; clear n_
    go_wp2_with (fail "a call")
    refine (Hhd1.out _ _ _ (Kd.R_reads' G.out)).mono ?_; rintro e w12 ⟨rfl, hd_⟩; have b12 := LwLib.db hd_; clear hd_
    have n_ := Aside0.mk (Kd.R_below R0.out b12); clear R0; have R0 := n_; clear n_
    have n_ := Aside0.mk (Kd.R_below G.out b12); clear G; have G := n_; clear n_
    have n_ := Aside0.mk (below_then B.out B.out.size b12); clear B; have B := n_; clear n_
    clear b12
    go_wp2_with (fail "a call")
    refine (Hto.out _ B.out).mono ?_; rintro e w13 ⟨v13, rfl, h13, b13⟩
    obtain ⟨A13, c13, rfl⟩ := Kd.S_slice h13
    have n_ := Aside0.mk (Kd.R_below R0.out b13); clear R0; have R0 := n_; clear n_
    have n_ := Aside0.mk (Kd.R_below G.out b13); clear G; have G := n_; clear n_
    have T := Aside0.mk (Kd.S_mono (ok' := fun k_ => True) (Kd.S_bound h13) (fun k_ hk_ => trivial)); clear h13
    have s13 := b13.size
    have n_ := Aside0.mk (below_then B.out B.out.size b13); clear B; have B := n_; clear n_
    clear b13
    go_wp2_with (fail "a call")
    refine (Him.out _ _ _ (Kd.S_reads' T.out).2.2 (Kd.S_reads' T.out).2.1).mono ?_; rintro e w14 ⟨v14, rfl, h14, b14⟩
    obtain ⟨A14, c14, rfl⟩ := Kd.R_slice h14
    have n_ := Aside0.mk (Kd.R_below R0.out b14); clear R0; have R0 := n_; clear n_
    have n_ := Aside0.mk (Kd.R_below G.out b14); clear G; have G := n_; clear n_
    have n_ := Aside0.mk (Kd.S_step T.out (fun k_ _ hlt_ => b14.block k_ hlt_)); clear T; have T := n_; clear n_
    have H := Aside0.mk (Kd.R_mono (ok' := fun k_ => True) (Kd.R_bound h14) (fun k_ hk_ => trivial)); clear h14
    have s14 := b14.size
    have n_ := Aside0.mk (below_then B.out B.out.size b14); clear B; have B := n_; clear n_
    clear b14
    go_wp2_with (fail "a call")
    clear T
    refine (Heq.out _ _ _ _ _ (Kd.R_reads' H.out).2.2 (Kd.R_reads' H.out).2.1 (Kd.R_reads' R0.out).2.2 (Kd.R_reads' R0.out).2.1).mono ?_; rintro e w15 ⟨rfl, hd_⟩; have b15 := LwLib.db hd_; clear hd_
    have n_ := Aside0.mk (Kd.R_below R0.out b15); clear R0; have R0 := n_; clear n_
    have n_ := Aside0.mk (Kd.R_below G.out b15); clear G; have G := n_; clear n_
    have n_ := Aside0.mk (Kd.R_below H.out b15); clear H; have H := n_; clear n_
    have n_ := Aside0.mk (below_then B.out B.out.size b15); clear B; have B := n_; clear n_
    clear b15
    go_wp2_with (fail "a call")
    clear H
    refine (Hhd1.out _ _ _ (Kd.R_reads' G.out)).mono ?_; rintro e w16 ⟨rfl, hd_⟩; have b16 := LwLib.db hd_; clear hd_
    have n_ := Aside0.mk (Kd.R_below R0.out b16); clear R0; have R0 := n_; clear n_
    have n_ := Aside0.mk (Kd.R_below G.out b16); clear G; have G := n_; clear n_
    have n_ := Aside0.mk (below_then B.out B.out.size b16); clear B; have B := n_; clear n_
    clear b16
    go_wp2_with (fail "a call")
    go_ret
    exact ⟨rfl, B.out⟩
end Go.Proofs.Ytngpjamojkneeaa.G
