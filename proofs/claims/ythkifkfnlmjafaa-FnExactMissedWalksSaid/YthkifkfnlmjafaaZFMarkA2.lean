import Derived.Test.YthkifkfnlmjafaaZG0
import Derived.Test.YthkifkfnlmjafaaZWk
import Derived.Test.YthkifkfnlmjafaaZPl
namespace Go.Proofs.Ythkifkfnlmjafaa.G
open Go.RowKit Go.Proofs.YthkifkfnlmjafaaW.PrintWords Go.Proofs.YthkifkfnlmjafaaW.PrintLast Go.Proofs.YthkifkfnlmjafaaW.PrintMore
attribute [local go_sem] max2_int min2_int max_two min_two max_three min_three max_four min_four
set_option linter.unusedVariables false
set_option linter.unusedSimpArgs false
open Go.Proofs.Ythkifkfnlmjafaa.Wk Go.Proofs.Ythkifkfnlmjafaa.Pl
namespace MarkA2
def mk (a : Int) (j : Nat) : S64 := ⟨a + 2 * j, a + 2 * j + 1⟩
def upTo (l : List S64) (a : Int) (i : Nat) : List S64 := (List.range i).map (mk a) ++ l.drop i
theorem upTo_len (l : List S64) (a : Int) (i : Nat) (h : i ≤ l.length) : (upTo l a i).length = l.length := by simp [upTo]; omega
theorem upTo_set (l : List S64) (a : Int) (i : Nat) (h : i < l.length) : (upTo l a i).set i (mk a i) = upTo l a (i + 1) := set_step (mk a) l.length i h z64 l rfl
end MarkA2
def laws_markInt64A2S.f (k : Nat) (l0 : List S64) (a1 : Int) : Option (Int × List S64) := if (0 ≤ a1 ∧ a1 ≤ 1152921504606846976 ∧ l0.length ≤ 1099511627776) then some (a1 + 2 * l0.length, (List.range l0.length).map (MarkA2.mk a1)) else none
theorem laws_markInt64A2S.mono : ∀ a0 a1 k, LeO (laws_markInt64A2S.f k a0 a1) (laws_markInt64A2S.f (k + 1) a0 a1) := fun _ _ _ => LeO.refl _
open MarkA2 in
set_option maxHeartbeats 4000000 in
set_option maxRecDepth 100000 in
theorem laws_markInt64A2S.calls (k : Nat) (P0_ : Nat → Prop) (u9000_ : Value) (l0 : List S64) (a1 : Int) (r1 : Int) (r2 : List S64) (w0 w : World) (hB : Below w0.heap.size w0 w) (ho0 : Kd.R k64 64 w w0.heap.size P0_ u9000_ l0) (h : laws_markInt64A2S.f k l0 a1 = some (r1, r2)) :
    Calls Try.prog 20 #[u9000_, .int .i64 a1] w fun e w' => e = .returned (.int .i64 r1) ∧ Kd.R k64 64 w' w0.heap.size (fun k_ => (P0_ k_ ∨ w.heap.size ≤ k_)) u9000_ r2 ∧ Below w0.heap.size w0 w' ∧ Kept w w' (fun k_ => P0_ k_) := by
  unfold laws_markInt64A2S.f at h
  by_cases hg : 0 ≤ a1 ∧ a1 ≤ 1152921504606846976 ∧ l0.length ≤ 1099511627776
  case neg => rw [if_neg hg] at h; cases h
  rw [if_pos hg] at h
  obtain ⟨rfl, rfl⟩ := Prod.mk.inj (Option.some.inj h)
  obtain ⟨h0, h1, hl⟩ := hg
  have HO0 := Aside0.mk (show Kd.R k64 64 w w0.heap.size (fun k_ => (P0_ k_ ∨ w.heap.size ≤ k_)) u9000_ l0 from Kd.R_mono ho0 (fun k_ hk => (.inl hk)))
  have HK0 := Aside0.mk (Kept.refl w (fun k_ => P0_ k_))
  have HB0 := Aside0.mk hB; clear hB h ho0; obtain ⟨A0, c0, e0⟩ := Kd.R_slice HO0.out
  subst e0; go_enter Try.func20, Try.ntmps20
  go_wp2
  go_loopg [1, 5] l0.length (fun gg s1 s5 wr => ∃ kk : Nat, kk ≤ l0.length ∧ l0.length - kk ≤ gg ∧ s1 = .int .i64 (a1 + 2 * kk) ∧ s5 = .int .i64 kk ∧ Aside0 (Kd.R k64 64 wr w0.heap.size (fun k_ => (P0_ k_ ∨ w.heap.size ≤ k_)) (.slice A0 l0.length c0) (upTo l0 a1 kk)) ∧ Aside0 (Kept w wr (fun k_ => P0_ k_)) ∧ Aside0 (Below w0.heap.size w0 wr))
  case atStart => exact ⟨0, Nat.zero_le _, by omega, by simp, rfl, by simpa [upTo] using HO0, HK0, HB0⟩
  case round =>
    obtain ⟨kk, hk, hgg, rfl, rfl, HO, HK, HB⟩ := hrel
    by_cases hlt : kk < l0.length
    · have hlt' : (kk : Int) < (l0.length : Int) := by omega
      obtain ⟨s, hs⟩ : ∃ s : Int, s = a1 + 2 * kk := ⟨_, rfl⟩
      have hs0 : 0 ≤ s := by omega
      have hs1 : s ≤ 2305843009213693952 := by omega
      have hlen := upTo_len l0 a1 kk (by omega)
      obtain ⟨go, co, eo, gb, gl, cl, hg9⟩ := Kd.R_form HO.out (by omega)
      injection eo with ea en ec
      subst ea; subst ec; clear en hg9 cl; have GB := Aside0.mk gb; clear gb gl; obtain ⟨t1, ht1⟩ : ∃ t1, t1 = (upTo l0 a1 kk).set kk ⟨s, ((upTo l0 a1 kk).getD kk z64).f1⟩ := ⟨_, rfl⟩
      have ht2 : t1.set kk ⟨s, s + 1⟩ = upTo l0 a1 (kk + 1) := by
        rw [ht1, List.set_set, ← upTo_set l0 a1 kk hlt, hs]
        rfl
      have hl1 : t1.length = l0.length := by rw [ht1, List.length_set, hlen]
      have hd1 : (t1.getD kk z64).f0 = s := by
        rw [ht1, getD_set_self (by omega)]
      rw [← hs]
      have Hs := Lib.hid hs
      have H1 := Lib.hid ht1
      have H2 := Lib.hid ht2
      clear hs ht1 ht2; go_wp2
      go_loopg [1, 6] 2 (fun gg s1 s6 wq => ∃ (jj : Int) (zs : List S64), (jj = 0 ∧ zs = upTo l0 a1 kk ∨ jj = 1 ∧ zs = t1 ∨ jj = 2 ∧ zs = upTo l0 a1 (kk + 1)) ∧ (2 - jj).toNat ≤ gg ∧ s1 = .int .i64 (s + jj) ∧ s6 = .int .i64 jj ∧ Aside0 (Kd.R k64 64 wq w0.heap.size (fun k_ => (P0_ k_ ∨ w.heap.size ≤ k_)) (.slice (some ⟨go, 0, none⟩) l0.length c0) zs) ∧ Aside0 (Kept w wq (fun k_ => P0_ k_)) ∧ Aside0 (Below w0.heap.size w0 wq))
      case atStart => exact ⟨0, _, Or.inl ⟨rfl, rfl⟩, by decide, by simp, rfl, HO, HK, HB⟩
      case round =>
        clear HO HK HB; obtain ⟨jj, zs, hj, hgj, rfl, rfl, HO, HK, HB⟩ := hrel
        rcases hj with ⟨rfl, rfl⟩ | ⟨rfl, rfl⟩ | ⟨rfl, rfl⟩
        · rw [Int.add_zero]
          obtain ⟨ce, hcl, hM, hcc, hfr⟩ := Kd.R_elem HO.out z64 (kk : Int) (by omega) (by omega)
          obtain rfl := k64_openM hM
          have HP := Kd.R_seg HO.out (kk : Int) (by omega) (by omega) (seg := [.int .i64 s]) (j := 0) hcl hcc (show 1 ≤ 2 from by decide) (x' := ⟨s, ((upTo l0 a1 kk).getD kk z64).f1⟩) (k64_mkM _ _ _ (⟨s, ((upTo l0 a1 kk).getD kk z64).f1⟩ : S64)) (fun _ hk => hk)
          have hx0 := hcc 0 _ rfl
          have hf0 := hfr 0
          simp only [show (k64).sz = 2 from rfl, Int.toNat_natCast, Nat.add_zero] at hx0 hf0 HP
          clear hcl hM hcc hfr; have HO2 := Aside0.mk (show Kd.R k64 64 (wr.setCell ⟨go, kk * 2, none⟩ (.int .i64 s)) w0.heap.size (fun k_ => (P0_ k_ ∨ w.heap.size ≤ k_)) (.slice (some ⟨go, 0, none⟩) l0.length c0) t1 by rw [H1.out]; exact HP.1)
          have HK2 := Aside0.mk (Kept.of_grown (S := (fun k_ => P0_ k_)) (show wr.grownBy (wr.setCell ⟨go, kk * 2, none⟩ (.int .i64 s)) (some go) from HP.2) HK.out (fun k_ e_ => (HO.out.1 k_ e_)))
          have HB2 := Aside0.mk (show Below w0.heap.size w0 (wr.setCell ⟨go, kk * 2, none⟩ (.int .i64 s)) from below_set (HB.out) GB.out)
          clear HP HO HK HB; go_wp2
          go_roundg 1
          case measure => omega
          case rel => exact ⟨1, t1, Or.inr (Or.inl ⟨rfl, rfl⟩), by decide, by first | rfl | go_num, by first | rfl | go_num, HO2, HK2, HB2⟩
        · obtain ⟨ce, hcl, hM, hcc, hfr⟩ := Kd.R_elem HO.out z64 (kk : Int) (by omega) (by omega)
          obtain rfl := k64_openM hM
          have HP := Kd.R_seg HO.out (kk : Int) (by omega) (by omega) (seg := [.int .i64 (s + 1)]) (j := 1) hcl hcc (show 1 + 1 ≤ 2 from by decide) (x' := ⟨(zs.getD kk z64).f0, s + 1⟩) (k64_mkM _ _ _ (⟨(zs.getD kk z64).f0, s + 1⟩ : S64)) (fun _ hk => hk)
          have hx0 := hcc 1 _ rfl
          have hf0 := hfr 1
          simp only [show (k64).sz = 2 from rfl, Int.toNat_natCast, Nat.add_zero] at hx0 hf0 HP
          clear hcl hM hcc hfr; have e9 : zs.set kk ⟨(zs.getD kk z64).f0, s + 1⟩ = upTo l0 a1 (kk + 1) := by rw [hd1]; exact H2.out
          have HO2 := Aside0.mk (show Kd.R k64 64 (wr.setCell ⟨go, kk * 2 + 1, none⟩ (.int .i64 (s + 1))) w0.heap.size (fun k_ => (P0_ k_ ∨ w.heap.size ≤ k_)) (.slice (some ⟨go, 0, none⟩) l0.length c0) (upTo l0 a1 (kk + 1)) by rw [← e9]; exact HP.1)
          have HK2 := Aside0.mk (Kept.of_grown (S := (fun k_ => P0_ k_)) (show wr.grownBy (wr.setCell ⟨go, kk * 2 + 1, none⟩ (.int .i64 (s + 1))) (some go) from HP.2) HK.out (fun k_ e_ => (HO.out.1 k_ e_)))
          have HB2 := Aside0.mk (show Below w0.heap.size w0 (wr.setCell ⟨go, kk * 2 + 1, none⟩ (.int .i64 (s + 1))) from below_set (HB.out) GB.out)
          clear HP HO HK HB; go_wp2
          go_roundg 0
          case measure => omega
          case rel => exact ⟨2, _, Or.inr (Or.inr ⟨rfl, rfl⟩), by decide, by first | rfl | go_num | (simp only [Value.int.injEq, true_and]; omega), by first | rfl | go_num, HO2, HK2, HB2⟩
        · go_wp2
          go_roundg (l0.length - (kk + 1))
          case measure => omega
          case rel => exact ⟨kk + 1, by omega, by omega, by rw [Hs.out]; simp only [Value.int.injEq, true_and]; omega, by go_num, HO, HK, HB⟩
    · obtain rfl : kk = l0.length := by omega
      have hltz : ¬ (l0.length : Int) < (l0.length : Int) := by omega
      go_wp2
      go_ret
      exact ⟨rfl, by simpa [upTo] using HO.out, HB.out, HK.out⟩
end Go.Proofs.Ythkifkfnlmjafaa.G
