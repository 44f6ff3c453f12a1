/- impl.SumOrder, walked by hand: the stable sort of the samples by their sums is an insertion sort. -/
import Derived.Test.YtepokbejmnkogaaFSumI
import Derived.Test.YtepokbejmnkogaaFVMarks
import Derived.Test.YtepokbejmnkogaaG2
namespace Go.Proofs.Ytepokbejmnkogaa.G
open Go.RowKit Go.Proofs.YtepokbejmnkogaaW.PrintWords Go.Proofs.YtepokbejmnkogaaW.PrintLast Go.Proofs.YtepokbejmnkogaaW.PrintMore
attribute [local go_sem] max2_int min2_int max_two min_two max_three min_three max_four min_four   -- for this text's walks alone
set_option linter.unusedVariables false
set_option linter.unusedSimpArgs false

open Go.Proofs.Ytepokbejmnkogaa.Wk Go.Proofs.Ytepokbejmnkogaa.Pl Go.Proofs.Ytepokbejmnkogaa.Sum SumW
namespace SumW
def iota (n : Nat) : List Int := (List.range n).map (fun i : Nat => (i : Int))
theorem iota_length (n : Nat) : (iota n).length = n := by simp [iota]
theorem iota_succ (n : Nat) : iota (n + 1) = iota n ++ [(n : Int)] := by simp [iota, List.range_succ]
theorem iota_smp (n : Nat) : Smp n (iota n) := by
  intro j hj
  rw [iota_length] at hj
  exact ⟨j, by simp [iota, List.getD, hj], hj⟩
theorem R_empty {W : World} {base : Nat} {ok : Nat → Prop} (hb : base ≤ W.heap.size) (hok : ok W.heap.size) : Kd.R (Kd.int .i64) 2 (W.alloc (.cells #[] 2)) base ok (.slice (some ⟨W.heap.size, 0, none⟩) 0 0) [] := by
  have h := own_lit W base 2 .i64 [] hb (by simp)
  exact Kd.R_of_own h (fun k hk => by
    have : W.heap.size = k := by simpa [Value.ownBlock] using hk
    rw [← this]; exact hok)
theorem cell_of_block {w w1 : World} {a : Addr} (h : w1.heap[a.block]? = w.heap[a.block]?) : w1.cell? a = w.cell? a := by
  unfold World.cell?
  rw [h]
end SumW
def impl_SumOrderK.f (k : Nat) (a0 : Int) (l1 : List (List Int)) : Option (List Int × Int) := (impl_ValidMarks.f a0 l1).bind fun t => if t = true then (impl_rankSums.f k a0 l1).bind fun S => (if 1 ≤ a0 ∧ a0 ≤ 8 ∧ S.length = a0.toNat then some (insI S (iota a0.toNat) (a0.toNat - 1), 0) else none) else some ([], 1)
set_option maxHeartbeats 16000000 in
set_option maxRecDepth 100000 in
theorem impl_SumOrderK.calls (k : Nat) (a0 : Int) (A1 : Option Addr) (c1 : Nat) (l1 : List (List Int)) (r1 : List Int) (r2 : Int) (w : World) (hr1 : Kd.C (Kd.slice 2 (Kd.int .i64)) w A1 l1.length l1) (hc1 : l1.length ≤ c1) (h : impl_SumOrderK.f k a0 l1 = some (r1, r2)) :
    Calls Try.prog 23 #[.int .i64 a0, .slice A1 l1.length c1] w fun e w' => ∃ v1_ : Value, e = .returned (.tuple #[v1_, .int .i64 r2]) ∧ Kd.R (Kd.int .i64) 2 w' w.heap.size (fun _ => True) v1_ r1 ∧ Below w.heap.size w w' := by
  unfold impl_SumOrderK.f at h
  obtain ⟨t, hv, h⟩ := Option.bind_eq_some_iff.1 h
  have HR := Aside0.mk hr1
  have HV := Lib.hid hv
  clear hr1 hv
  cases t
  · rw [if_neg (by simp)] at h
    obtain ⟨rfl, rfl⟩ := Prod.mk.inj (Option.some.inj h)
    clear h
    go_enter Try.func23, Try.ntmps23
    go_wp2_with (go_at_call 60; refine (impl_ValidMarks.calls a0 A1 c1 l1 false w HR.out hc1 HV.out).mono ?_; rintro e w1 ⟨rfl, hd1⟩; have B1 := Aside0.mk hd1; clear hd1)
    go_ret2
    exact ⟨_, rfl, Kd.R_nil _ _ _ _ _, B1.out⟩
  · rw [if_pos rfl] at h
    obtain ⟨S, hS, h⟩ := Option.bind_eq_some_iff.1 h
    by_cases hq : 1 ≤ a0 ∧ a0 ≤ 8 ∧ S.length = a0.toNat
    case neg => rw [if_neg hq] at h; cases h
    rw [if_pos hq] at h
    obtain ⟨rfl, rfl⟩ := Prod.mk.inj (Option.some.inj h)
    clear h
    obtain ⟨hq1, hq8, hSl⟩ := hq
    obtain ⟨q, rfl⟩ := Int.eq_ofNat_of_zero_le (show 0 ≤ a0 by omega)
    rw [Int.toNat_natCast] at hSl ⊢
    have HS := Lib.hid hS
    have HSL := Lib.hid hSl
    clear hS hSl
    go_enter Try.func23, Try.ntmps23
    go_upto_region 4 with (first | (go_at_call 60; refine (impl_ValidMarks.calls q A1 c1 l1 true w HR.out hc1 HV.out).mono ?_; rintro e w1 ⟨rfl, hd1⟩; have B1 := Aside0.mk hd1; clear hd1) | (go_at_call 64; (refine (impl_rankSums.calls k q A1 c1 l1 S _ (Kd.C_below HR.out B1.out) hc1 HS.out).mono ?_; rintro e w2 ⟨v15, rfl, hR2, hb2⟩; have R2 := Aside0.mk hR2; have B2 := Aside0.mk (below_then B1.out B1.out.size hb2); clear hR2 hb2; obtain ⟨A15, c15, rfl⟩ := Kd.R_slice R2.out)))
    have XC := Aside0.mk (Kd.R_reads' R2.out).2.2
    have hc15 := (Kd.R_reads' R2.out).2.1
    first
      | refine reletE (F := (fun w' => Kd.R (Kd.int .i64) 2 w' w2.heap.size (fun k => k ≠ w2.heap.size + 1) (.slice (some ⟨w2.heap.size, 0, none⟩) 0 0) (iota 0) ∧ Below w2.heap.size w2 w' ∧ (w'.cell? ⟨w2.heap.size + 1, 0, none⟩ = some (.slice A15 S.length c15) ∧ w2.heap.size + 1 < w'.heap.size))) ⟨Kd.R_alloc (R_empty (Nat.le_refl _) (by omega)) _, below_alloc (below_alloc (Below.refl _ _) _) _, by rw [World.cell?_alloc_at _ _ _ _ (by simp)]; simp, by simp⟩ ?_
      | refine reletI (F := (fun w' => Kd.R (Kd.int .i64) 2 w' w2.heap.size (fun k => k ≠ w2.heap.size + 1) (.slice (some ⟨w2.heap.size, 0, none⟩) 0 0) (iota 0) ∧ Below w2.heap.size w2 w' ∧ (w'.cell? ⟨w2.heap.size + 1, 0, none⟩ = some (.slice A15 S.length c15) ∧ w2.heap.size + 1 < w'.heap.size))) ⟨Kd.R_alloc (R_empty (Nat.le_refl _) (by omega)) _, below_alloc (below_alloc (Below.refl _ _) _) _, by rw [World.cell?_alloc_at _ _ _ _ (by simp)]; simp, by simp⟩ ?_
      | refine reletC (F := (fun w' => Kd.R (Kd.int .i64) 2 w' w2.heap.size (fun k => k ≠ w2.heap.size + 1) (.slice (some ⟨w2.heap.size, 0, none⟩) 0 0) (iota 0) ∧ Below w2.heap.size w2 w' ∧ (w'.cell? ⟨w2.heap.size + 1, 0, none⟩ = some (.slice A15 S.length c15) ∧ w2.heap.size + 1 < w'.heap.size))) ⟨Kd.R_alloc (R_empty (Nat.le_refl _) (by omega)) _, below_alloc (below_alloc (Below.refl _ _) _) _, by rw [World.cell?_alloc_at _ _ _ _ (by simp)]; simp, by simp⟩ ?_
    rintro W3 ⟨ro, b3, cb⟩
    have RO := Aside0.mk ro
    have B3 := Aside0.mk b3
    have CB := Aside0.mk cb
    clear ro b3 cb
    go_wp2
    go_loopg [7, 18] q (fun gg v7 v18 wi => ∃ i : Nat, i ≤ q ∧ q - i ≤ gg ∧ v18 = .int .i64 i ∧ Aside0 (Kd.R (Kd.int .i64) 2 wi w2.heap.size (fun k => k ≠ w2.heap.size + 1) v7 (iota i)) ∧ Aside0 (Below w2.heap.size w2 wi) ∧ Aside0 (wi.cell? ⟨w2.heap.size + 1, 0, none⟩ = some (.slice A15 S.length c15) ∧ w2.heap.size + 1 < wi.heap.size))
    case atStart => exact ⟨0, Nat.zero_le _, by omega, rfl, RO, B3, CB⟩
    case round =>
      clear RO B3 CB
      obtain ⟨i, hiq, hgg, rfl, RO, B3, CB⟩ := hrel
      by_cases hi : i < q
      · have hi' : (i : Int) < (q : Int) := by omega
        have hln := iota_length i
        go_wp2_with (first | ((with_reducible refine gate_builtin (b := .append) (xs := #[.tmp 21, .tmp 23]) rfl ?_); at_builtin; refine Kd.R_append (Kd.int .i64) (w0 := w2) w2.heap.size rfl (.tmp 21) (.tmp 23) 22 2 (.int .i64 0) 8 rfl Try.underlying22 info2 rfl (by decide) (by omega) u7 (iota i) (i : Int) [.int .i64 (i : Int)] (fun k => k ≠ w2.heap.size + 1) (fun _ => False) rfl rfl ?aP (fun _ hk => hk.elim) ?aF ?aO ?aB ?aS ?aL ?_; (case aP => exact rfl); (case aB => exact B3.out); (case aF => exact fun k hk e => by have := CB.out.2; omega); (case aO => exact RO.out); (case aS => exact B3.out.size); (case aL => rw [hln]; omega); intro v24 w5 ho hb hg hat; have RO2 := Aside0.mk ho; have B2' := Aside0.mk hb; have CB2 := Aside0.mk (show w5.cell? ⟨w2.heap.size + 1, 0, none⟩ = some (.slice A15 S.length c15) ∧ w2.heap.size + 1 < w5.heap.size from ⟨by rw [cell_of_block (hg.block _ CB.out.2 (fun e => RO.out.1 _ e.symm rfl))]; exact CB.out.1, Nat.lt_of_lt_of_le CB.out.2 hg.size⟩); clear ho hb hg hat RO B3 CB))
        go_roundg (q - (i + 1))
        case measure => omega
        case rel => exact ⟨i + 1, by omega, by omega, by go_num, by rw [iota_succ]; exact RO2, B2', CB2⟩
      · have hi' : ¬ (i : Int) < (q : Int) := by omega
        obtain rfl : i = q := by omega
        obtain ⟨g, cap, e7, hgb, hgl, -⟩ := Kd.R_form RO.out (by rw [iota_length]; omega)
        rw [iota_length] at e7
        subst e7
        have hgx : g ≠ w2.heap.size + 1 := RO.out.1 g (by simp [Value.ownBlock])
        have HW := Lib.hid fun (W : World) (h1 : Kd.R (Kd.int .i64) 2 W w2.heap.size (fun k => k ≠ w2.heap.size + 1) (.slice (some ⟨g, 0, none⟩) i cap) (iota i)) (h2 : W.cell? ⟨w2.heap.size + 1, 0, none⟩ = some (.slice A15 S.length c15) ∧ Below w2.heap.size w2 W) =>
          sortW i g cap w2.heap.size (fun k => k ≠ w2.heap.size + 1) ⟨w2.heap.size + 1, 0, none⟩ i S (iota i) W (fun W => W.cell? ⟨w2.heap.size + 1, 0, none⟩ = some (.slice A15 S.length c15) ∧ Below w2.heap.size w2 W) (fun W hW => ⟨hW.1, below_drew hW.2⟩) (fun W m hW => ⟨hW.1, pw_below_drewN hW.2 m⟩)
            (fun W o v hW => ⟨by rw [World.cell?_setCell_other _ _ _ _ (by intro e; injection e with e1 _ _; exact hgx e1)]; exact hW.1, hW.2.setCell hgb _⟩) (by omega) (by omega) (iota_length i) (iota_smp i) hgb hgx
            (fun x y W hW hx hy => cmpW x y ⟨w2.heap.size + 1, 0, none⟩ A15 c15 S W hW.1 (Kd.C_below XC.out hW.2) (by rw [HSL.out]; exact hx) (by rw [HSL.out]; exact hy)) h1 h2
        go_wp2_with (go_at_call 66; refine (HW.out _ RO.out ⟨CB.out.1, B3.out⟩).mono ?_; rintro e w6 ⟨rfl, r6, i6⟩; have R6 := Aside0.mk r6; have I6 := Aside0.mk i6; clear r6 i6)
        go_ret2
        exact ⟨_, rfl, Kd.R_mono (Kd.R_lower R6.out B2.out.size) (fun _ _ => trivial), below_then B2.out B2.out.size I6.out.2⟩
end Go.Proofs.Ytepokbejmnkogaa.G
